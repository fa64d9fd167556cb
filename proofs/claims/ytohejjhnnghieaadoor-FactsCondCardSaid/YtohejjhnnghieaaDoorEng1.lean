/- A part of the proof that the laws of this seat hold. Conditions: none beyond the row. -/
import Derived.Test.YtohejjhnnghieaaDoorEng0
import Derived.TacticsIn
import Derived.RangeFuncLeaves
import Derived.Laws.AppendOwn
import Derived.Lib.AppendZerosOnto
import Derived.Scope
import Derived.OrdersIn
import Derived.Still
set_option linter.unusedVariables false
set_option linter.unusedSimpArgs false
set_option linter.unusedSectionVars false
section
/- What it means that an activation goes well from its items on. -/
namespace Go.Eng
open Go.RowKit

/-! ### A loop, as a least fixed point -/
def LoopI (F : Fence) (n : Nat) (P : Program) (c : Code) (Q : Exit → Act → World → Prop) (a : Act) (w : World) : Prop :=
  ∀ I : Act → World → Prop, (∀ a w, c.wpIn F n P (Exit.then I Q) a w → I a w) → I a w

theorem then_mono {K K' : Act → World → Prop} {Q Q' : Exit → Act → World → Prop} (h1 : ∀ a w, K a w → K' a w) (h2 : ∀ e a w, Q e a w → Q' e a w) : ∀ e a w, Exit.then K Q e a w → Exit.then K' Q' e a w := by
  intro e a w h; cases e <;> first | exact h1 _ _ h | exact h2 _ _ _ h

theorem LoopI.fold {F : Fence} {n : Nat} {P : Program} {c : Code} {Q : Exit → Act → World → Prop} {a : Act} {w : World} (h : c.wpIn F n P (Exit.then (LoopI F n P c Q) Q) a w) : LoopI F n P c Q a w :=
  fun I hI => hI a w (wpIn_mono h (then_mono (fun _ _ k => k I hI) (fun _ _ _ k => k)))

theorem LoopI.mono {F : Fence} {n : Nat} {P : Program} {c : Code} {Q Q' : Exit → Act → World → Prop} {a : Act} {w : World} (hq : ∀ e a w, Q e a w → Q' e a w) (h : LoopI F n P c Q a w) : LoopI F n P c Q' a w :=
  fun I hI => h I fun a w k => hI a w (wpIn_mono k (then_mono (fun _ _ k => k) hq))

theorem LoopI.wpIn {F : Fence} {n : Nat} {P : Program} {c : Code} {Q : Exit → Act → World → Prop} {a : Act} {w : World} (h : LoopI F n P c Q a w) : (Code.loop c).wpIn F n P Q a w := by
  intro b k cs hro hb hr
  have key := h (fun a w => ∃ e a' w', Q e a' w' ∧ ArrivesIn (Machine.fenced P F) P (lone (b.atR a (.code c :: .inLoop c :: k)) cs w) b k cs e a' w') (fun a w hc => by
    obtain ⟨e, a₁, w₁, hq, harr⟩ := hc b (.inLoop c :: k) cs hro hb hr
    cases e with
    | normal =>
      obtain ⟨e₂, a₂, w₂, hq₂, harr₂⟩ := hq
      exact ⟨e₂, a₂, w₂, hq₂, .of_steps (StepsIn.trans harr (.one (fenced_calm hb hr rfl) stepR_inLoop)) harr₂⟩
    | exit id => exact ⟨_, a₁, w₁, hq, .pass (x := .inLoop c) rfl (fun _ _ => .inl (by simp)) harr⟩
    | goto l => exact ⟨_, a₁, w₁, hq, .pass (x := .inLoop c) rfl (fun _ _ => .inl (by simp)) harr⟩
    | ret => exact ⟨_, a₁, w₁, hq, .pass (x := .inLoop c) rfl (fun _ _ => .inl (by simp)) harr⟩
    | panic ch => exact ⟨_, a₁, w₁, hq, .pass (x := .inLoop c) rfl (fun _ _ => .inl (by simp)) harr⟩
    | outgrown => exact ⟨_, a₁, w₁, hq, .pass (x := .inLoop c) rfl (fun _ _ => .inl (by simp)) harr⟩)
  obtain ⟨e, a', w', hq, harr⟩ := key
  exact ⟨e, a', w', hq, .of_steps (.one (fenced_calm hb hr rfl) stepR_loop) harr⟩

/-! ### Items -/
def wpIts (ι : Inst) (F : Fence) (n : Nat) (P : Program) (Q : Exit → Act → World → Prop) : List It → Exit → Act → World → Prop
  | [], e, a, w => Q e a w
  | .code c :: k, .normal, a, w => c.wpIn F n P (wpIts ι F n P Q k) a w
  | .now c :: k, .normal, a, w => c.wpIn F n P (wpIts ι F n P Q k) a w
  | .lp c :: k, .normal, a, w => LoopI F n P c (wpIts ι F n P Q k) a w
  | .ops all rest :: k, .normal, a, w => wpListIn F n P all.toArray (wpIts ι F n P Q k) rest a w
  | .blk id :: k, .exit j, a, w => if j = id then wpIts ι F n P Q k .normal a w else wpIts ι F n P Q k (.exit j) a w
  | .begin l :: k, .normal, a, w => ∀ b z, ι.blk[l]? = some (b, z) → ∃ w₂, (Instr.beginRound b).run P w = .ok () w₂ ∧ wpIts ι F n P Q k .normal a w₂
  | .fin l :: k, .normal, a, w => ∀ b z, ι.blk[l]? = some (b, z) → ∃ jump w₄, (Instr.endLoop b).run P w = .ok jump w₄ ∧
      (match jump with | none => wpIts ι F n P Q k .normal a w₄ | some c => c.wpIn F n P (wpIts ι F n P Q k) a w₄)
  | .scp :: _, .goto _, _, _ => False
  | .begin _ :: _, _, _, _ => False
  | .fin _ :: _, _, _, _ => False
  | _ :: k, e, a, w => wpIts ι F n P Q k e a w

theorem wpListIn_mono {F : Fence} {n : Nat} {P : Program} {ops : Array Oper} {Q Q' : Exit → Act → World → Prop} (hq : ∀ e a w, Q e a w → Q' e a w) : ∀ (l : List Oper) (a : Act) (w : World),
    wpListIn F n P ops Q l a w → wpListIn F n P ops Q' l a w
  | [], _, _, h => hq _ _ _ h
  | o :: l, a, w, h => by
    unfold wpListIn at *
    split
    · rename_i hw
      rw [if_pos hw] at h
      obtain ⟨ha, h⟩ := h
      refine ⟨ha, ?_⟩
      have ih := wpListIn_mono (F := F) (n := n) (P := P) (ops := ops) hq l
      have hlo : LetsOut Q → LetsOut Q' := fun ⟨a, w, h⟩ => ⟨a, w, hq _ _ _ h⟩
      generalize (o.semAt F.round a.eval).run P w = r at h ⊢
      cases r with
      | ok x w' =>
        cases x <;> first
          | exact ih _ _ h
          | exact h
          | (refine ⟨h.1, h.2.mono ?_⟩; intro e w'' k; cases e <;> first | exact ih _ _ k | exact hq _ _ _ k | exact hlo k)
          | (refine ⟨h.1, h.2.mono ?_⟩; intro e w'' k; exact ih _ _ k)
      | halt x w' => cases x <;> first | exact hq _ _ _ h | exact h
    · rename_i hw
      rw [if_neg hw] at h
      exact ⟨h.1, wpListIn_mono hq l _ _ h.2⟩

theorem wpIts_mono {ι ι' : Inst} {F : Fence} {n : Nat} {P : Program} {Q Q' : Exit → Act → World → Prop} (hb : ∀ (i : Nat) x, ι.blk[i]? = some x → ι'.blk[i]? = some x) (hq : ∀ e a w, Q e a w → Q' e a w) :
    ∀ (k : List It) (e : Exit) (a : Act) (w : World), wpIts ι' F n P Q k e a w → wpIts ι F n P Q' k e a w
  | [], e, a, w, h => hq _ _ _ h
  | it :: k, e, a, w, h => by
    have ih := wpIts_mono (F := F) (n := n) (P := P) hb hq k
    cases it with
    | code c => cases e <;> first | exact ih _ _ _ h | exact wpIn_mono h ih
    | now c => cases e <;> first | exact ih _ _ _ h | exact wpIn_mono h ih
    | lp c => cases e <;> first | exact ih _ _ _ h | exact LoopI.mono ih h
    | ops all rest => cases e <;> first | exact ih _ _ _ h | exact wpListIn_mono ih _ _ _ h
    | scp => cases e <;> first | exact h.elim | exact ih _ _ _ h
    | blk id =>
      cases e <;> first | exact ih _ _ _ h | skip
      simp only [wpIts] at h ⊢
      split
      · rename_i e; rw [if_pos e] at h; exact ih _ _ _ h
      · rename_i e; rw [if_neg e] at h; exact ih _ _ _ h
    | begin l =>
      cases e <;> first | exact h | skip
      intro b z e
      obtain ⟨w₂, h1, h2⟩ := h b z (hb _ _ e)
      exact ⟨w₂, h1, ih _ _ _ h2⟩
    | fin l =>
      cases e <;> first | exact h | skip
      intro b z e
      obtain ⟨j, w₄, h1, h2⟩ := h b z (hb _ _ e)
      refine ⟨j, w₄, h1, ?_⟩
      cases j with
      | none => exact ih _ _ _ h2
      | some c => exact wpIn_mono h2 ih

/-! ### Frames -/
def DRel (ι : Inst) (D : List Nat) (ds : List Deferred) : Prop := All2 (fun d (x : Deferred) => ∃ b z, ι.blk[d]? = some (b, z) ∧ x = { target := .collected b, args := #[] }) D ds

theorem DRel.mono {ι ι' : Inst} (h : Ext ι ι') {D : List Nat} {ds : List Deferred} (k : DRel ι D ds) : DRel ι' D ds :=
  All2.imp (fun _ _ ⟨b, z, e, h'⟩ => ⟨b, z, h.blk _ _ e, h'⟩) k

abbrev Post := Exit → List AV → List Nat → Heap → Prop

/-- As Ext, of the first objects alone. -/
structure ExtB (β : Nat) (ι ι' : Inst) : Prop where
  w0 : ι'.w0 = ι.w0
  prot : ∀ b o, ι.prot b = some o → ι'.prot b = some o
  blk : ∀ (i : Nat) x, i < β → ι.blk[i]? = some x → ι'.blk[i]? = some x
  old : ∀ b, b < ι.w0.heap.size → ι'.prot b = ι.prot b

theorem ExtB.refl (β : Nat) (ι : Inst) : ExtB β ι ι := ⟨rfl, fun _ _ h => h, fun _ _ _ h => h, fun _ _ => rfl⟩
theorem ExtB.after {β : Nat} {a b c : Inst} (h : Ext a b) (k : ExtB β b c) : ExtB β a c :=
  ⟨k.w0.trans h.w0, fun x o e => k.prot x o (h.prot x o e), fun i x hi e => k.blk i x hi (h.blk i x e), fun x hx => (k.old x (by rw [h.w0]; exact hx)).trans (h.old x hx)⟩
theorem ExtB.full {β : Nat} {a b : Inst} (h : ExtB β a b) (hl : β = a.blk.length) : Ext a b :=
  ⟨h.w0, h.prot, fun i x e => h.blk i x (by rw [hl]; exact (List.getElem?_eq_some_iff.1 e).1) e, h.old⟩

def lift (E : Env) (β : Nat) (ι : Inst) (p : Post) : Exit → Act → World → Prop := fun e a w => ∃ ι' T D H, ExtB β ι ι' ∧ ARel E ι' T H a w ∧ DRel ι' D a.defers ∧ p e T D H

theorem lift_ext {E : Env} {β : Nat} {ι ι' : Inst} {p : Post} (h : Ext ι ι') : ∀ e a w, lift E β ι' p e a w → lift E β ι p e a w :=
  fun _ _ _ ⟨ι2, T, D, H, e, k⟩ => ⟨ι2, T, D, H, ExtB.after h e, k⟩

def blockOf (ι : Inst) (l : Nat) : Nat := match ι.blk[l]? with | some (b, _) => b | none => 0

def fenceOf (ι : Inst) : FK → Fence
  | .round l _ => Fence.wide.inRound (blockOf ι l)
  | _ => Fence.wide

def KOk (ι : Inst) : FK → Prop
  | .round l _ => ∃ b z, ι.blk[l]? = some (b, z)
  | _ => True

theorem fenceOf_ext {ι ι' : Inst} (h : Ext ι ι') {k : FK} (hk : KOk ι k) : fenceOf ι' k = fenceOf ι k := by
  cases k <;> first | rfl | skip
  obtain ⟨b, z, e⟩ := hk
  simp only [fenceOf, blockOf, e, h.blk _ _ e]

theorem KOk.mono {ι ι' : Inst} (h : Ext ι ι') {k : FK} (hk : KOk ι k) : KOk ι' k := by
  cases k <;> first | trivial | skip
  obtain ⟨b, z, e⟩ := hk
  exact ⟨b, z, h.blk _ _ e⟩

theorem ARel.mono {E : Env} {ι ι' : Inst} {T : List AV} {H H' : Heap} {a : Act} {w w' : World} (r : ARel E ι T H a w) (h : Ext ι ι') (hh : HRel ι' H' w') : ARel E ι' T H' a w' :=
  ⟨hh, All2.imp (fun _ _ => RepV_mono h) r.tmps, r.glob.mono h⟩

def FrameW (E : Env) (fr : Fr) (p : Post) (H : Heap) : Prop :=
  ∀ n ι a w, ARel E ι fr.T H a w → DRel ι fr.D a.defers → KOk ι fr.kind → wpIts ι (fenceOf ι fr.kind) n E.P (lift E fr.base ι p) fr.items .normal a w

/-- The jump by which a body is left. -/
def jumpOf : Exit → Option (Option Code)
  | .normal => some none
  | .ret => some (some .ret)
  | .exit j => some (some (.exit j))
  | _ => none

def KW (E : Env) (Q : AV → Heap → Prop) : List Fr → FK → FuncId → Post
  | stk, kind, f => fun e T D H =>
    match kind, stk with
    | .round l dst, fr' :: stk' => ∃ j, jumpOf e = some j ∧ D = [] ∧ ∃ s p g T0 ps c b d, H[l]? = some (.loop s p g T0 ps c b d) ∧
        FrameW E { fr' with T := setO fr'.T dst (.bool j.isNone) } (KW E Q stk' fr'.kind fr'.id) (H.set l (.loop (if j.isNone then .ready else .done) j g T0 ps c b d))
    | kind, stk => (∃ j, jumpOf e = some j ∧ isRet j = true) ∧ ∃ fn H' q v, E.fns f = some fn ∧ clearDs H D = some H' ∧ resF E H' T fn = some (q, v) ∧ holds q ∧
        match kind, stk with
        | .top, [] => Q v H'
        | .call dst, fr' :: stk' => FrameW E { fr' with T := setO fr'.T dst v } (KW E Q stk' fr'.kind fr'.id) H'
        | .iter _, fr' :: stk' => FrameW E fr' (KW E Q stk' fr'.kind fr'.id) H'
        | _, _ => False

/-- From here on all goes well. -/
def WW (E : Env) (Q : AV → Heap → Prop) : Cfg := fun fr stk H => FrameW E fr (KW E Q stk fr.kind fr.id) H
end Go.Eng
end
section
/- Calls by contract: arguments seen as plain data. -/
namespace Go.Eng
open Go.RowKit
variable {E : Env} {ι : Inst} {T : List AV} {H : Heap} {a : Act} {w : World}

def argsOf (c : TC) (x : c.den) : List AV :=
  match c with
  | .unit => []
  | c => (c.both x).2

def protUp (pr : Nat → Option Obj) (w w' : World) : Nat → Option Obj := fun b => if b < w.heap.size then pr b else w'.heap[b]?

/-- An answer that stands in memory of its own. -/
def ownRes (e : Own) (w w' : World) : (c : TC) → c.den → Value → Prop
  | .slice c, xs, v => c.flat = true ∧ ∃ t, e = .row t ∧ ∃ b k cells l r, v = .slice (some ⟨b, 0, none⟩) xs.length k ∧ w.heap.size ≤ b ∧ w'.heap[b]? = some (.cells cells t (0, 0)) ∧ cells.toList = l ++ r ∧
      RepAll (RepD ⟨w, fun _ => none, []⟩ c) xs l ∧ xs.length ≤ k ∧ k * c.size ≤ cells.size
  | .junk, _, v => ∃ es, e = .mp es ∧ ∃ b ents clock, v = .map (some b) ∧ w.heap.size ≤ b ∧ w'.heap[b]? = some (.map ents clock) ∧
      ∀ ι, All2 (fun (e : AV × AV) (c : MapEntry) => RepV0 ι e.1 c.key ∧ RepV0 ι e.2 c.val) es ents.toList
  | _, _, _ => False

/-- The contract of a function. -/
def SpecOk (E : Env) (f : FuncId) (sp : Spec) : Prop :=
  ∀ (x : sp.dom.den) (w : World) (pr : Nat → Option Obj) (args : List Value), sp.pre x → (∀ b o, pr b = some o → w.heap[b]? = some o) → GlobRep E ⟨w, pr, []⟩ →
    All2 (RepV ⟨w, pr, []⟩) (argsOf sp.dom x) args →
    CallOk E.P f args.toArray w fun c w' => Below w.heap.size w w' ∧ RepV ⟨w, protUp pr w w', []⟩ (resV sp.n sp.cod (sp.f x)) c ∧ ∀ e, sp.own = some e → ownRes e w w' sp.cod (sp.f x) c

theorem back_agg : ∀ (c : TC) (v : AV) (x : c.den), c.back.1 v = some x → aggB v = aggB (ofD c x) ∧ ntB v = true := by
  intro c
  cases c <;> intro v x h <;> simp only [TC.back] at h <;> (split at h <;> first | exact ⟨rfl, rfl⟩ | cases h | skip)
  rename_i hv
  cases v <;> first | exact ⟨rfl, rfl⟩ | cases hv

theorem RepV_back {c : TC} {v : AV} {x : c.den} {u : Value} (h : c.back.1 v = some x) (k : RepV ι v u) : RepV ι (ofD c x) u := by
  obtain ⟨h1, h2⟩ := back_agg c v x h
  cases ha : aggB v with
  | true =>
    obtain ⟨cs, hr, rfl⟩ := k.agg ha
    exact RepV_of_agg (h1 ▸ ha) (Rep_ofD.2 (Rep_toD h hr))
  | false => exact RepV_of_rep (h1 ▸ ha) (Rep_ofD.2 (Rep_toD h (k.one ha (ntB_ok h2))))

theorem args_back : ∀ (c : TC) (vs : List AV) (x : c.den) (us : List Value), c.back.2 vs = some x → All2 (RepV ι) vs us → All2 (RepV ι) (c.both x).2 us := by
  have one : ∀ (c : TC) (vs : List AV) (x : c.den) (us : List Value), oneOf c.back.1 vs = some x → All2 (RepV ι) vs us → All2 (RepV ι) [ofD c x] us := by
    intro c vs x us h k
    obtain ⟨v, rfl, hv⟩ := oneOf_some h
    obtain ⟨u, _, rfl, h1, h2⟩ := k.cons_inv
    cases h2
    exact .cons (RepV_back hv h1) .nil
  intro c
  induction c with
  | st a r iha ihr =>
    intro vs x us h k
    simp only [TC.back] at h
    split at h
    · rename_i v l
      split at h
      · rename_i y hy
        split at h
        · rename_i z hz
          simp only [Option.some.injEq] at h; subst h
          obtain ⟨u, us', rfl, h1, h2⟩ := k.cons_inv
          simp only [TC.both]
          exact .cons (RepV_back hy h1) (ihr _ _ _ hz h2)
        · cases h
      · cases h
    · cases h
  | st1 a iha => intro vs x us h k; exact one a vs x us h k
  | int k => intro vs x us h k'; exact one (.int k) vs x us h k'
  | bool => intro vs x us h k'; exact one .bool vs x us h k'
  | str => intro vs x us h k'; exact one .str vs x us h k'
  | unit => intro vs x us h k'; exact one .unit vs x us h k'
  | slice c _ => intro vs x us h k'; exact one (.slice c) vs x us h k'
  | arr n c _ => intro vs x us h k'; exact one (.arr n c) vs x us h k'
  | ref c _ => intro vs x us h k'; exact one (.ref c) vs x us h k'
  | junk => intro vs x us h k'; exact one .junk vs x us h k'

theorem argsD_ok {c : TC} {vs : List AV} {x : c.den} {us : List Value} (h : argsD c vs = some x) (k : All2 (RepV ι) vs us) : All2 (RepV ι) (argsOf c x) us := by
  cases c with
  | unit =>
    cases vs with
    | nil => cases k; exact .nil
    | cons v vs => simp [argsD] at h
  | int kk => exact args_back (.int kk) vs x us h k
  | bool => exact args_back .bool vs x us h k
  | str => exact args_back .str vs x us h k
  | st a r => exact args_back (.st a r) vs x us h k
  | st1 a => exact args_back (.st1 a) vs x us h k
  | slice c => exact args_back (.slice c) vs x us h k
  | arr n c => exact args_back (.arr n c) vs x us h k
  | ref c => exact args_back (.ref c) vs x us h k
  | junk => exact args_back .junk vs x us h k

end Go.Eng
end
section
/- Calls by contract are right. -/
namespace Go.Eng
open Go.RowKit
variable {E : Env} {ι : Inst} {T : List AV} {H : Heap} {a : Act} {w : World}

def ProtSub (ι ι' : Inst) : Prop := ∀ b o, ι.prot b = some o → ι'.prot b = some o

theorem RepD_data {ι ι' : Inst} : ∀ (c : TC), (c.flat = true ∨ ProtSub ι ι') → ∀ (x : c.den) (cs : List Value), RepD ι c x cs → RepD ι' c x cs
  | .int _, _, _, _, k => k
  | .bool, _, _, _, k => k
  | .str, _, _, _, k => k
  | .unit, _, _, _, k => k
  | .st a r, h, _, _, ⟨l, m, e, k1, k2⟩ =>
    have h' : (a.flat = true ∧ r.flat = true) ∨ ProtSub ι ι' := h.imp (fun h => by simpa [TC.flat] using h) id
    ⟨l, m, e, RepD_data a (h'.imp (·.1) id) _ _ k1, RepD_data r (h'.imp (·.2) id) _ _ k2⟩
  | .st1 a, h, _, _, k => RepD_data a h _ _ k
  | .slice _, _, _, _, ⟨v, e, .inl k⟩ => ⟨v, e, .inl k⟩
  | .slice c, h, _, _, ⟨v, e, .inr ⟨b, off, kk, cells, t, fz, l, e1, hk, hp, hr, ha⟩⟩ =>
    have h' : ProtSub ι ι' := h.resolve_left (by simp [TC.flat])
    ⟨v, e, .inr ⟨b, off, kk, cells, t, fz, l, e1, hk, h' _ _ hp, hr.mono (fun x l => RepD_data c (.inr h') x l), ha⟩⟩
  | .arr _ c, h, _, _, ⟨hn, hr⟩ => ⟨hn, hr.mono (fun x l => RepD_data c h x l)⟩
  | .ref c, h, _, _, ⟨b, off, cells, t, fz, l, e, hp, hr, ha⟩ =>
    have h' : ProtSub ι ι' := h.resolve_left (by simp [TC.flat])
    ⟨b, off, cells, t, fz, l, e, h' _ _ hp, RepD_data c (.inr h') _ _ hr, ha⟩
  | .junk, _, _, _, k => k

theorem ofD_nt : ∀ (c : TC) (x : c.den), ntB (ofD c x) = true := by intro c x; cases c <;> rfl

theorem RepV_data {ι ι' : Inst} {c : TC} {x : c.den} {u : Value} (h : c.flat = true ∨ ProtSub ι ι') (k : RepV ι (ofD c x) u) : RepV ι' (ofD c x) u := by
  cases ha : aggB (ofD c x) with
  | true =>
    obtain ⟨cs, hr, rfl⟩ := k.agg ha
    exact RepV_of_agg ha (Rep_ofD.2 (RepD_data c h _ _ (Rep_ofD.1 hr)))
  | false => exact RepV_of_rep ha (Rep_ofD.2 (RepD_data c h _ _ (Rep_ofD.1 (k.one ha (ntB_ok (ofD_nt c x))))))

theorem both_data {ι ι' : Inst} : ∀ (c : TC), (c.flat = true ∨ ProtSub ι ι') → ∀ (x : c.den) (us : List Value), All2 (RepV ι) (c.both x).2 us → All2 (RepV ι') (c.both x).2 us := by
  have one : ∀ (c : TC), (c.flat = true ∨ ProtSub ι ι') → ∀ (x : c.den) (us : List Value), All2 (RepV ι) [ofD c x] us → All2 (RepV ι') [ofD c x] us := by
    intro c h x us k
    obtain ⟨u, _, rfl, k1, k2⟩ := k.cons_inv
    cases k2
    exact .cons (RepV_data h k1) .nil
  intro c
  induction c with
  | st a r _ ihr =>
    intro h x us k
    have h' : (a.flat = true ∧ r.flat = true) ∨ ProtSub ι ι' := h.imp (fun h => by simpa [TC.flat] using h) id
    simp only [TC.both] at k ⊢
    obtain ⟨u, us', rfl, k1, k2⟩ := k.cons_inv
    exact .cons (RepV_data (c := a) (h'.imp (·.1) id) k1) (ihr (h'.imp (·.2) id) _ _ k2)
  | st1 a _ => intro h x us k; exact one a h x us k
  | int k => intro h x us k'; exact one (.int k) h x us k'
  | bool => intro h x us k'; exact one .bool h x us k'
  | str => intro h x us k'; exact one .str h x us k'
  | unit => intro h x us k'; exact one .unit h x us k'
  | slice c _ => intro h x us k'; exact one (.slice c) h x us k'
  | arr n c _ => intro h x us k'; exact one (.arr n c) h x us k'
  | ref c _ => intro h x us k'; exact one (.ref c) h x us k'
  | junk => intro h x us k'; exact one .junk h x us k'

theorem argsOf_data {ι ι' : Inst} {c : TC} {x : c.den} {us : List Value} (h : c.flat = true ∨ ProtSub ι ι') (k : All2 (RepV ι) (argsOf c x) us) : All2 (RepV ι') (argsOf c x) us := by
  cases c with
  | unit => cases k; exact .nil
  | int kk => exact both_data (.int kk) h x us k
  | bool => exact both_data .bool h x us k
  | str => exact both_data .str h x us k
  | st a r => exact both_data (.st a r) h x us k
  | st1 a => exact both_data (.st1 a) h x us k
  | slice c => exact both_data (.slice c) h x us k
  | arr n c => exact both_data (.arr n c) h x us k
  | ref c => exact both_data (.ref c) h x us k
  | junk => exact both_data .junk h x us k

theorem both_nt : ∀ (c : TC) (x : c.den), ∀ v ∈ (c.both x).2, ntB v = true := by
  intro c
  induction c with
  | st a r _ ihr => intro x v hv; simp only [TC.both, List.mem_cons] at hv; rcases hv with rfl | hv; exact ofD_nt a x.1; exact ihr _ v hv
  | st1 a _ => intro x v hv; simp only [TC.both, List.mem_singleton] at hv; subst hv; exact ofD_nt a x
  | _ => intro x v hv; simp only [TC.both, List.mem_singleton] at hv; subst hv; rfl

theorem All2_V0 {vs : List AV} {us : List Value} (h : ∀ v ∈ vs, ntB v = true) : All2 (RepV0 ι) vs us ↔ All2 (RepV ι) vs us := by
  constructor
  · intro k
    induction k with
    | nil => exact .nil
    | cons h1 _ ih => exact .cons ((RepV_iff (ntB_ok (h _ (by simp)))).2 h1) (ih fun v hv => h v (by simp [hv]))
  · intro k
    induction k with
    | nil => exact .nil
    | cons h1 _ ih => exact .cons ((RepV_iff (ntB_ok (h _ (by simp)))).1 h1) (ih fun v hv => h v (by simp [hv]))

theorem resV_data {ι ι' : Inst} {n : Nat} {c : TC} {x : c.den} {u : Value} (h : c.flat = true ∨ ProtSub ι ι') (k : RepV ι (resV n c x) u) : RepV ι' (resV n c x) u := by
  unfold resV at *
  split
  · rename_i e; rw [if_pos e] at k; exact RepV_data h k
  · rename_i e; rw [if_neg e] at k
    split
    · rename_i e'; rw [if_pos e'] at k; obtain ⟨l, rfl, k⟩ := k; cases k; exact ⟨[], rfl, .nil⟩
    · rename_i e'; rw [if_neg e'] at k
      obtain ⟨l, rfl, k⟩ := k
      exact ⟨l, rfl, (All2_V0 (both_nt c x)).2 (both_data c h x l ((All2_V0 (both_nt c x)).1 k))⟩

theorem CallOk.mono {P : Program} {f : FuncId} {args : Array Value} {R R' : Value → World → Prop} (h : CallOk P f args w R) (hr : ∀ c w', R c w' → R' c w') : CallOk P f args w R' := by
  rcases h with ⟨v, h1, h2⟩ | ⟨h1, h2⟩
  · exact .inl ⟨v, h1, hr _ _ h2⟩
  · exact .inr ⟨h1, h2.mono fun e w' ⟨v, he, k⟩ => ⟨v, he, hr _ _ k⟩⟩

/-- A call by contract whose answer bears no memory. -/
theorem spec_flat {f : FuncId} {sp : Spec} (hsp : SpecOk E f sp) (hfl : sp.cod.flat = true) {vs us : List AV} {q : List Prop} {x : sp.dom.den} {args : List Value} (hv : views H vs = some (q, us)) (hq : holds q)
    (hx : argsD sp.dom us = some x) (hp : sp.pre x) (r : HRel ι H w) (hg : GlobRep E ι) (ha : All2 (RepV ι) vs args) :
    CallOk E.P f args.toArray w fun c w' => ∃ ι', Ext ι ι' ∧ HRel ι' H w' ∧ RepV ι' (resV sp.n sp.cod (sp.f x)) c := by
  have hS : Sub ι (ι.all w) := ⟨r.prot, fun _ _ h => h⟩
  have h1 := views_ok r hS vs us q args (fun o _ own t v b z _ _ => rfl) hv hq ha
  have h2 := argsD_ok hx h1
  have h3 : All2 (RepV ⟨w, fun b => w.heap[b]?, []⟩) (argsOf sp.dom x) args := argsOf_data (ι := ι.all w) (.inr fun b o e => e) h2
  refine (hsp x w (fun b => w.heap[b]?) args hp (fun b o e => e) (hg.sub r.prot) h3).mono ?_
  · intro c w' ⟨hB, hr, _⟩
    exact ⟨ι.grown w w', r.ext_grown w', r.grown hB, resV_data (.inl hfl) hr⟩

/-- A call by contract, what is handed over being frozen. -/
theorem spec_full {f : FuncId} {sp : Spec} (hsp : SpecOk E f sp) {vs us : List AV} {q : List Prop} {x : sp.dom.den} {args : List Value} {H' : Heap} (hf : freezeA H (handsOfL vs) = some H') (hv : views H' vs = some (q, us)) (hq : holds q)
    (hx : argsD sp.dom us = some x) (hp : sp.pre x) (r : HRel ι H w) (hg : GlobRep E ι) (ha : All2 (RepV ι) vs args) :
    CallOk E.P f args.toArray w fun c w' => ∃ ι', Ext ι ι' ∧ HRel ι' H' w' ∧ RepV ι' (resV sp.n sp.cod (sp.f x)) c := by
  obtain ⟨ι1, hE1, r1, _, hfr⟩ := freezeA_ok _ hf r
  have h1 := views_ok r1 (ι' := ι1) ⟨fun _ _ h => h, fun _ _ h => h⟩ vs us q args (fun o ho own t v b z e1 e2 => by
    obtain ⟨t', v', e⟩ := hfr o ho
    rw [e1] at e; cases e
    obtain ⟨cells, fz, l, rr, k1, k2, k3, k4, k5⟩ := r1.obj _ _ _ _ e1 e2
    have k5 : ι1.prot b = some (.cells cells t fz) := k5
    rw [k5, k1]) hv hq (All2.imp (fun _ _ => RepV_mono hE1) ha)
  have h2 := argsD_ok hx h1
  have h3 : All2 (RepV ⟨w, ι1.prot, []⟩) (argsOf sp.dom x) args := argsOf_data (ι := ι1) (.inr fun b o e => e) h2
  refine (hsp x w ι1.prot args hp r1.prot (hg.sub hE1.prot) h3).mono ?_
  · intro c w' ⟨hB, hr, _⟩
    exact ⟨ι1.grown w w', hE1.trans (r1.ext_grown w'), r1.grown hB, resV_data (ι := ⟨w, protUp ι1.prot w w', []⟩) (.inr fun b o e => e) hr⟩

/-- A block that a callee has made becomes one's own. -/
theorem HRel.adopt {w' : World} (h : HRel ι H w) (hB : Below w.heap.size w w') {b z : Nat} {x : AObj} (hb : w.heap.size ≤ b) (hlt : b < w'.heap.size)
    (hx : ∀ ι', ObjRel ι' w' b z x) :
    ∃ ι', Ext ι ι' ∧ HRel ι' (H ++ [x]) w' ∧ ι'.blk[H.length]? = some (b, z) := by
  have hsz : w.heap.size ≤ w'.heap.size := hB.size
  let ι' : Inst := { ι with prot := fun k => if k = b then none else if k < w.heap.size then ι.prot k else w'.heap[k]?, blk := ι.blk ++ [(b, z)] }
  have hE : Ext ι ι' := ⟨rfl, fun k o e => by
      have hk := h.size_prot e
      show (if k = b then none else if k < w.heap.size then ι.prot k else w'.heap[k]?) = some o
      rw [if_neg (by omega), if_pos hk]; exact e, fun i y e => by
      have hi := (List.getElem?_eq_some_iff.1 e).1
      show (ι.blk ++ [(b, z)])[i]? = some y
      rw [List.getElem?_append_left hi]; exact e, fun k hk => by
      have hs := h.base.size
      show (if k = b then none else if k < w.heap.size then ι.prot k else w'.heap[k]?) = ι.prot k
      rw [if_neg (by omega), if_pos (by omega)]⟩
  have hprot : ∀ k o, ι.prot k = some o → w'.heap[k]? = some o := fun k o e => by rw [hB.block k (h.size_prot e)]; exact h.prot _ _ e
  have old : ∀ {i : Nat} {b' z' : Nat} {y : AObj}, (H ++ [x])[i]? = some y → (ι.blk ++ [(b, z)])[i]? = some (b', z') →
      (H[i]? = some y ∧ ι.blk[i]? = some (b', z')) ∨ (i = H.length ∧ y = x ∧ b' = b ∧ z' = z) := by
    intro i b' z' y e1 e2
    rcases Nat.lt_or_ge i H.length with hi | hi
    · left
      rw [List.getElem?_append_left hi] at e1
      rw [List.getElem?_append_left (h.len ▸ hi)] at e2
      exact ⟨e1, e2⟩
    · right
      have : i < (H ++ [x]).length := (List.getElem?_eq_some_iff.1 e1).1
      simp at this
      have hi' : i = H.length := by omega
      subst hi'
      simp at e1
      simp [h.len] at e2
      exact ⟨rfl, e1.symm, e2.1.symm, e2.2.symm⟩
  refine ⟨ι', hE, ⟨by simp [ι', h.len], ?_, ?_, ?_, ?_, ?_⟩, by simp [ι', h.len]⟩
  · intro k o e
    have e : (if k = b then none else if k < w.heap.size then ι.prot k else w'.heap[k]?) = some o := e
    split at e
    · cases e
    · split at e
      · exact hprot k o e
      · exact e
  · intro i y b' z' e1 e2
    rcases old e1 e2 with ⟨k1, k2⟩ | ⟨rfl, rfl, rfl, rfl⟩
    · exact ObjRel_mono hE (fun ho => hB.block _ (h.own _ _ _ _ k1 ho k2).2.1) hprot (h.obj _ _ _ _ k1 k2)
    · exact hx _
  · intro i y b' z' e1 ho e2
    rcases old e1 e2 with ⟨k1, k2⟩ | ⟨rfl, rfl, rfl, rfl⟩
    · have := h.own _ _ _ _ k1 ho k2
      refine ⟨?_, by omega, this.2.2⟩
      show (if b' = b then none else if b' < w.heap.size then ι.prot b' else w'.heap[b']?) = none
      rw [if_neg (by omega), if_pos this.2.1]; exact this.1
    · refine ⟨?_, hlt, Nat.le_trans h.base.size hb⟩
      show (if b' = b' then none else _) = none
      rw [if_pos rfl]
  · intro i j y y' b' z1 z2 e1 o1 e2 o2 b1 b2
    rcases old e1 b1 with ⟨k1, k2⟩ | ⟨rfl, rfl, hb', _⟩
    · rcases old e2 b2 with ⟨k3, k4⟩ | ⟨rfl, rfl, hb', _⟩
      · exact h.sep _ _ _ _ _ _ _ k1 o1 k3 o2 k2 k4
      · have := (h.own _ _ _ _ k1 o1 k2).2.1; omega
    · rcases old e2 b2 with ⟨k3, k4⟩ | ⟨rfl, rfl, _, _⟩
      · have := (h.own _ _ _ _ k3 o2 k4).2.1; omega
      · rfl
  · exact h.base.trans (hB.mono h.base.size)

/-- A call by contract whose answer is the caller's own. -/
theorem spec_own {f : FuncId} {sp : Spec} (hsp : SpecOk E f sp) {e : Own} (ho : sp.own = some e) {vs us : List AV} {q : List Prop} {x : sp.dom.den} {args : List Value} {H' : Heap} {v : AV} {ob : AObj} (hf : freezeA H (handsOfL vs) = some H')
    (hv : views H' vs = some (q, us)) (hq : holds q) (hx : argsD sp.dom us = some x) (hp : sp.pre x) (hown : ownA e H'.length sp.cod (sp.f x) = some (v, ob)) (r : HRel ι H w) (hg : GlobRep E ι) (ha : All2 (RepV ι) vs args) :
    CallOk E.P f args.toArray w fun c w' => ∃ ι', Ext ι ι' ∧ HRel ι' (H' ++ [ob]) w' ∧ RepV ι' v c := by
  obtain ⟨ι1, hE1, r1, _, hfr⟩ := freezeA_ok _ hf r
  have h1 := views_ok r1 (ι' := ι1) ⟨fun _ _ h => h, fun _ _ h => h⟩ vs us q args (fun o ho own t v b z e1 e2 => by
    obtain ⟨t', v', e⟩ := hfr o ho
    rw [e1] at e; cases e
    obtain ⟨cells, fz, l, rr, k1, k2, k3, k4, k5⟩ := r1.obj _ _ _ _ e1 e2
    have k5 : ι1.prot b = some (.cells cells t fz) := k5
    rw [k5, k1]) hv hq (All2.imp (fun _ _ => RepV_mono hE1) ha)
  have h2 := argsD_ok hx h1
  have h3 : All2 (RepV ⟨w, ι1.prot, []⟩) (argsOf sp.dom x) args := argsOf_data (ι := ι1) (.inr fun b o e => e) h2
  refine (hsp x w ι1.prot args hp r1.prot (hg.sub hE1.prot) h3).mono ?_
  intro c w' ⟨hB, _, hres⟩
  have hres := hres e ho
  revert hown hres
  generalize sp.f x = y
  revert y
  generalize sp.cod = cd
  intro y hown hres
  cases cd <;> first | (cases hres; done) | skip
  · rename_i c0
    obtain ⟨hfl, t, rfl, b, k, cells, l, rr, rfl, hb, hw, hcl, hrep, hk, hkz⟩ := hres
    simp only [ownA, Option.some.injEq, Prod.mk.injEq] at hown
    obtain ⟨rfl, rfl⟩ := hown
    have hlt : b < w'.heap.size := (Array.getElem?_eq_some_iff.1 hw).1
    obtain ⟨ι', hE, hH, hblk⟩ := r1.adopt hB hb hlt (z := cells.size) (x := .cell true t (.arr (List.length y) c0 y)) (fun ι' => ⟨cells, (0, 0), l, rr, hw, hcl, rfl, by
      rw [Rep]; exact ⟨rfl, hrep.mono fun x l h => RepD_data c0 (.inl hfl) x l h⟩, rfl⟩)
    refine ⟨ι', hE1.trans hE, hH, RepV_of_rep rfl ?_⟩
    rw [Rep]
    exact ⟨b, cells.size, k, hblk, by simp [pathOff], hk, by simpa [pathOff] using hkz, by simp⟩
  · obtain ⟨es, rfl, b, ents, clock, rfl, hb, hw, hes⟩ := hres
    simp only [ownA, Option.some.injEq, Prod.mk.injEq] at hown
    obtain ⟨rfl, rfl⟩ := hown
    have hlt : b < w'.heap.size := (Array.getElem?_eq_some_iff.1 hw).1
    obtain ⟨ι', hE, hH, hblk⟩ := r1.adopt hB hb hlt (z := 0) (x := .map es) (fun ι' => ⟨ents, clock, hw, hes ι'⟩)
    refine ⟨ι', hE1.trans hE, hH, RepV_of_rep rfl ?_⟩
    rw [Rep]
    exact ⟨b, 0, hblk, rfl⟩

theorem viewT_ok {v u : AV} {q : List Prop} {H2 : Heap} {c : Value} (h : viewT H v = some (q, u, H2)) (hq : holds q) (r : HRel ι H w) (k : RepV ι v c) : ∃ ι', Ext ι ι' ∧ HRel ι' H2 w ∧ RepV ι' u c := by
  have seen : ∀ {os : List Nat} {ι1 : Inst} {H1 : Heap}, HRel ι1 H1 w → (∀ o ∈ os, ∃ t v, H1[o]? = some (AObj.cell false t v)) → Seen ι1 ι1 w H1 os := by
    intro os ι1 H1 r1 hfr o ho own t v b z e1 e2
    obtain ⟨t', v', e⟩ := hfr o ho
    rw [e1] at e; cases e
    obtain ⟨cells, fz, l, rr, k1, k2, k3, k4, k5⟩ := r1.obj _ _ _ _ e1 e2
    have k5 : ι1.prot b = some (.cells cells t fz) := k5
    rw [k5, k1]
  unfold viewT at h
  split at h
  · rename_i vs
    split at h
    · rename_i H1 hf
      split at h
      · rename_i q' us hv
        split at h
        · rename_i hnt
          simp only [Option.some.injEq, Prod.mk.injEq] at h; obtain ⟨rfl, rfl, rfl⟩ := h
          obtain ⟨ι1, hE1, r1, _, hfr⟩ := freezeA_ok _ hf r
          obtain ⟨l, rfl, kl⟩ := RepV_mono hE1 k
          have h1 := views_ok r1 (ι' := ι1) ⟨fun _ _ h => h, fun _ _ h => h⟩ vs us q' l (seen r1 hfr) hv hq (All2.imp (fun _ _ => RepV_of0) kl)
          exact ⟨ι1, hE1, r1, l, rfl, (All2_V0 fun v hv => List.all_eq_true.1 hnt v hv).2 h1⟩
        · cases h
      · cases h
    · cases h
  · split at h
    · rename_i H1 hf
      split at h
      · rename_i q' u' hv
        simp only [Option.some.injEq, Prod.mk.injEq] at h; obtain ⟨rfl, rfl, rfl⟩ := h
        obtain ⟨ι1, hE1, r1, _, hfr⟩ := freezeA_ok _ hf r
        exact ⟨ι1, hE1, r1, viewV_ok r1 ⟨fun _ _ h => h, fun _ _ h => h⟩ (seen r1 hfr) hv hq (RepV_mono hE1 k)⟩
      · cases h
    · cases h
end Go.Eng
end
section
/- One step of the evaluator is right. -/
namespace Go.Eng
open Go.RowKit
variable {E : Env} {ι : Inst} {T : List AV} {H : Heap} {a : Act} {w : World}

theorem fn_inv {f : FuncId} {caps : List AV} {c : Value} (h : RepV ι (.fn f caps) c) : ∃ l : List Value, c = .func (.func f) #[] l.toArray ∧ All2 (RepV ι) caps l := by
  have := h.one rfl rfl; rw [Rep] at this
  obtain ⟨hc, l, e, k⟩ := this
  refine ⟨l, by simpa using e, ?_⟩
  clear e h
  revert l
  induction caps with
  | nil => intro l k; rw [RepL] at k; rw [k.2]; exact .nil
  | cons v vs ih =>
    intro l k
    simp only [List.length_cons, List.replicate_succ] at k
    rw [RepL] at k
    obtain ⟨s, ss', l1, m, e1, rfl, e3, k1, k2⟩ := k
    simp only [List.cons.injEq] at e1
    obtain ⟨rfl, rfl⟩ := e1
    obtain ⟨c, rfl⟩ := List.length_eq_one_iff.1 e3
    simp only [List.all_cons, Bool.and_eq_true] at hc
    exact .cons (RepV_of_rep (by simpa using hc.1) k1) (ih hc.2 m k2)

theorem bnd_inv {f : FuncId} {fs : List AV} {c : Value} (h : RepV ι (.bnd f fs) c) : ∃ l : List Value, c = .func (.func f) l.toArray #[] ∧ All2 (RepV ι) fs l := by
  have := h.one rfl rfl; rw [Rep] at this
  obtain ⟨hc, l, e, k⟩ := this
  have h2 : RepV ι (.fn f fs) (.func (.func f) #[] l.toArray) := RepV_of_rep rfl (by rw [Rep]; exact ⟨hc, l, rfl, k⟩)
  obtain ⟨l', e', k'⟩ := fn_inv h2
  have : l = l' := by simpa using e'
  subst this
  exact ⟨l, by simpa using e, k'⟩

theorem put_rel {d : Option Tmp} {v : AV} {c : Value} (h : All2 (RepV ι) T a.tmps.toList) (hv : RepV ι v c) : All2 (RepV ι) (setO T d v) (a.put d c).tmps.toList := by
  cases d with
  | none => exact h
  | some d => simp only [setO, Act.put, Array.toList_setIfInBounds]; exact h.set d v c hv

theorem put_defers {d : Option Tmp} {c : Value} : (a.put d c).defers = a.defers := by cases d <;> rfl

theorem All2.set_same {α β : Type} {R : α → β → Prop} {l : List α} {m : List β} (k : All2 R l m) (i : Nat) (x : α) (h : ∀ b, m[i]? = some b → R x b) : All2 R (l.set i x) m := by
  induction k generalizing i with
  | nil => simpa using .nil
  | cons h1 t ih =>
    cases i with
    | zero => exact .cons (h _ rfl) t
    | succ i => exact .cons h1 (ih i (fun b e => h b e))

theorem fence_fn (k : FK) (f : FuncId) : (fenceOf ι k).fn f := by cases k <;> trivial
theorem fence_depth (k : FK) : (fenceOf ι k).depth = none := by cases k <;> rfl

theorem callsIn_fence {k : FK} {n : Nat} {P : Program} {f : FuncId} {args : Array Value} {R : Ending → World → Prop} (h : CallsIn Fence.wide n P f args w R) : CallsIn (fenceOf ι k) n P f args w R := by
  cases k <;> first | exact h | exact CallsIn.inRound _ h

/-- What comes behind an operation that has yielded its value. -/
theorem next_ok {fr : Fr} {p : Post} {H' : Heap} {ι' : Inst} {w' : World} {T' : List AV} {d : Option Tmp} {v : AV} {c : Value} {n : Nat} (hW : FrameW E { fr with T := setO T' d v } p H') (hE : Ext ι ι') (hH : HRel ι' H' w')
    (hv : RepV ι' v c) (hT : All2 (RepV ι) T' a.tmps.toList) (hg : GlobRep E ι) (hD : DRel ι fr.D a.defers) (hk : KOk ι fr.kind) : wpIts ι (fenceOf ι fr.kind) n E.P (lift E fr.base ι p) fr.items .normal (a.put d c) w' := by
  have h := hW n ι' (a.put d c) w' ⟨hH, put_rel (All2.imp (fun _ _ => RepV_mono hE) hT) hv, hg.mono hE⟩ (by rw [put_defers]; exact hD.mono hE) (hk.mono hE)
  have hf : fenceOf ι' fr.kind = fenceOf ι fr.kind := fenceOf_ext hE hk
  simp only [hf] at h
  exact wpIts_mono hE.blk (lift_ext hE) _ _ _ _ h

def resOne (tmps : Array Value) : ResultVar → Sem Value
  | .tmp t => pure (tmps.getD t undef)
  | .cell b t => do loadVar t (← asAddr (tmps.getD b undef))

theorem results_ok (hV : E.Valid) (r : ARel E ι T H a w) : ∀ {l : List ResultVar} {vs : List AV} {q : List Prop}, resTs E H T l = some (q, vs) → holds q →
    ∃ us : List Value, (l.mapM (resOne a.tmps)).run E.P w = .ok us w ∧ All2 (RepV ι) vs us
  | [], vs, q, h, _ => by simp only [resTs, Option.some.injEq, Prod.mk.injEq] at h; obtain ⟨_, rfl⟩ := h; exact ⟨[], rfl, .nil⟩
  | x :: l, vs, q, h, hq => by
    simp only [resTs] at h
    split at h
    · rename_i q1 v1 q2 vs2 h1 h2
      simp only [Option.some.injEq, Prod.mk.injEq] at h; obtain ⟨rfl, rfl⟩ := h
      rw [holds_app] at hq
      obtain ⟨us, hrun, hu⟩ := results_ok hV r h2 hq.2
      have hx : ∃ u, (resOne a.tmps x).run E.P w = .ok u w ∧ RepV ι v1 u := by
        cases x with
        | tmp t =>
          simp only [resT] at h1
          split at h1
          · rename_i v hv
            simp only [Option.some.injEq, Prod.mk.injEq] at h1; obtain ⟨_, rfl⟩ := h1
            obtain ⟨c, e, k⟩ := r.tmps.at t v hv
            exact ⟨c, by simp only [resOne]; rw [getD_toList e]; rfl, k⟩
          · cases h1
        | cell b t =>
          simp only [resT] at h1
          split at h1
          · rename_i v d hv hd
            split at h1
            · rename_i q' u hl
              split at h1
              · rename_i hc
                simp only [Option.some.injEq, Prod.mk.injEq] at h1; obtain ⟨rfl, rfl⟩ := h1
                obtain ⟨c, e, k⟩ := r.tmps.at b v hv
                obtain ⟨bb, off, hb, hst⟩ := loadA_ok hl hq.1 r.heap k
                obtain ⟨cc, hrun, hr⟩ := loadVar_ok (hV.ty _ _ hd) hc.1 hc.2 hst
                refine ⟨cc, ?_, hr⟩
                simp only [resOne]
                rw [getD_toList e, hb]
                simp only [Sem.run_bind, asAddr, Sem.run_pure, Result.andThen, hrun]
              · cases h1
            · cases h1
          · cases h1
      obtain ⟨u, hxr, hxu⟩ := hx
      refine ⟨u :: us, ?_, .cons hxu hu⟩
      rw [List.mapM_cons]
      simp only [Sem.run_bind, hxr, Result.andThen, hrun, Sem.run_pure]
    · cases h

theorem resF_ok (hV : E.Valid) (r : ARel E ι T H a w) {fn : Func} {q : List Prop} {v : AV} (h : resF E H T fn = some (q, v)) (hq : holds q) : ∃ c, (results fn a.tmps).run E.P w = .ok c w ∧ RepV ι v c := by
  have key : ∀ us : List Value, (fn.results.toList.mapM (resOne a.tmps)).run E.P w = .ok us w → (results fn a.tmps).run E.P w = .ok (if h : us.toArray.size = 1 then us.toArray[0] else .tuple us.toArray) w := fun us hu => by
    have : (fn.results.mapM (resOne a.tmps)).run E.P w = .ok us.toArray w := by
      rw [Array.mapM_eq_mapM_toList]; simp only [Sem.run_map, hu, Result.andThen]
    have h2 : results fn a.tmps = (do
      let vs ← fn.results.mapM (resOne a.tmps)
      pure (if h : vs.size = 1 then vs[0] else .tuple vs)) := by
      unfold results
      congr 1
    rw [h2]
    simp only [Sem.run_bind, this, Result.andThen, Sem.run_pure]
  unfold resF at h
  split at h
  · rename_i q' v' hr
    simp only [Option.some.injEq, Prod.mk.injEq] at h; obtain ⟨rfl, rfl⟩ := h
    obtain ⟨us, hrun, hu⟩ := results_ok hV r hr hq
    obtain ⟨u, _, rfl, h1, h2⟩ := hu.cons_inv
    cases h2
    exact ⟨u, by rw [key _ hrun]; simp, h1⟩
  · rename_i q' vs hne hr
    split at h
    · rename_i hnt
      simp only [Option.some.injEq, Prod.mk.injEq] at h; obtain ⟨rfl, rfl⟩ := h
      obtain ⟨us, hrun, hu⟩ := results_ok hV r hr hq
      refine ⟨.tuple us.toArray, ?_, ⟨us, rfl, (All2_V0 fun v hv => List.all_eq_true.1 hnt v hv).2 hu⟩⟩
      rw [key _ hrun, dif_neg]
      intro h1
      have := hu.len
      simp at h1
      rw [h1] at this
      obtain ⟨v, rfl⟩ := List.length_eq_one_iff.1 this
      first | exact hne v hr | exact hne v rfl | exact hne _ _ rfl | exact hne _ rfl
    · cases h
  · cases h

theorem leaves_ok (hV : E.Valid) {n : Nat} {F : Fence} {fn : Func} {R : Ending → World → Prop} : ∀ {D : List Nat} {ds : List Deferred} {ι : Inst} {H H' : Heap} {w : World} {q : List Prop} {v : AV}, clearDs H D = some H' → resF E H' T fn = some (q, v) → holds q →
    HRel ι H w → All2 (RepV ι) T a.tmps.toList → GlobRep E ι → DRel ι D ds → (∀ c w', HRel ι H' w' → RepV ι v c → R (.returned c) w') → LeavesInM F n E.P fn a.tmps R ds .returning w
  | [], ds, ι, H, H', w, q, v, hc, hr, hq, hH, hT, hg, hD, hR => by
    simp only [clearDs, Option.some.injEq] at hc; subst hc
    cases hD
    obtain ⟨c, hrun, hv⟩ := resF_ok hV (⟨hH, hT, hg⟩ : ARel E ι T H a w) hr hq
    exact ⟨c, hrun, hR c w hH hv⟩
  | d :: D, ds, ι, H, H', w, q, v, hc, hr, hq, hH, hT, hg, hD, hR => by
    simp only [clearDs] at hc
    split at hc
    · rename_i hd
      obtain ⟨x, ds', rfl, ⟨b, z, hb, rfl⟩, hD'⟩ := hD.cons_inv
      have hobj : w.heap[b]? = some (.deferred (some [])) := hH.obj _ _ _ _ hd hb
      refine ⟨by simp, .inl ⟨b, w.putObj b (.deferred none), rfl, run_takeDeferred hobj, ?_⟩⟩
      refine leaves_ok hV hc hr hq ?_ hT hg hD' hR
      exact hH.upd hd rfl hb (fun k hk => World.putObj_heap_other hk) (by simp) rfl rfl rfl trivial
    · cases hc
end Go.Eng
end
section
/- Append is right. -/
namespace Go.Eng
open Go.RowKit
variable {E : Env} {ι : Inst} {T : List AV} {H : Heap} {a : Act} {w : World}

/-- An owned object becomes another one, in the same block. -/
theorem HRel.move {w' : World} (h : HRel ι H w) {i : Nat} {x y : AObj} {b z : Nat} (hi : H[i]? = some x) (ho : x.owned = true) (hb : ι.blk[i]? = some (b, z))
    (hk : ∀ k, k ≠ b → w'.heap[k]? = w.heap[k]?) (hs : w'.heap.size = w.heap.size) (h1 : w'.os = w.os) (h2 : w'.tape = w.tape) (h3 : w'.output = w.output)
    (hy : ObjRel (ι.add b z) w' b z y) : HRel (ι.add b z) (H.set i .dead ++ [y]) w' := by
  have hd := h.upd (x' := .dead) hi ho hb hk hs h1 h2 h3 trivial
  have hE := Ext.add ι b z
  have hown := h.own _ _ _ _ hi ho hb
  have hlen : (H.set i .dead).length = ι.blk.length := by simp [h.len]
  have old : ∀ {j : Nat} {b' z' : Nat} {v : AObj}, (H.set i .dead ++ [y])[j]? = some v → (ι.add b z).blk[j]? = some (b', z') →
      ((H.set i .dead)[j]? = some v ∧ ι.blk[j]? = some (b', z')) ∨ (j = H.length ∧ v = y ∧ b' = b ∧ z' = z) := by
    intro j b' z' v e1 e2
    rcases Nat.lt_or_ge j H.length with hj | hj
    · left
      rw [List.getElem?_append_left (by simpa using hj)] at e1
      simp only [Inst.add] at e2
      rw [List.getElem?_append_left (h.len ▸ hj)] at e2
      exact ⟨e1, e2⟩
    · right
      have : j < (H.set i .dead ++ [y]).length := (List.getElem?_eq_some_iff.1 e1).1
      simp at this
      have hj' : j = H.length := by omega
      subst hj'
      rw [List.getElem?_append_right (by simp)] at e1
      simp at e1
      simp [Inst.add, h.len] at e2
      exact ⟨rfl, e1.symm, e2.1.symm, e2.2.symm⟩
  have nob : ∀ {j : Nat} {v : AObj} {z' : Nat}, (H.set i .dead)[j]? = some v → v.owned = true → ι.blk[j]? = some (b, z') → False := by
    intro j v z' e1 o1 e2
    rw [List.getElem?_set] at e1
    split at e1
    · split at e1
      · simp at e1; subst e1; cases o1
      · cases e1
    · rename_i hij
      exact hij (h.sep _ _ _ _ _ _ _ hi ho e1 o1 hb e2)
  refine ⟨by simp [Inst.add, h.len], hd.prot, ?_, ?_, ?_, hd.base⟩
  · intro j v b' z' e1 e2
    rcases old e1 e2 with ⟨k1, k2⟩ | ⟨rfl, rfl, rfl, rfl⟩
    · exact ObjRel_mono hE (fun _ => rfl) hd.prot (hd.obj _ _ _ _ k1 k2)
    · exact hy
  · intro j v b' z' e1 o1 e2
    rcases old e1 e2 with ⟨k1, k2⟩ | ⟨rfl, rfl, rfl, rfl⟩
    · exact hd.own _ _ _ _ k1 o1 k2
    · exact ⟨hown.1, by omega, hown.2.2⟩
  · intro j k v u b' z1 z2 e1 o1 e2 o2 b1 b2
    rcases old e1 b1 with ⟨k1, k2⟩ | ⟨rfl, rfl, rfl, _⟩
    · rcases old e2 b2 with ⟨k3, k4⟩ | ⟨rfl, rfl, rfl, _⟩
      · exact hd.sep _ _ _ _ _ _ _ k1 o1 k3 o2 k2 k4
      · exact (nob k1 o1 k2).elim
    · rcases old e2 b2 with ⟨k3, k4⟩ | ⟨rfl, rfl, _, _⟩
      · exact (nob k3 o2 k4).elim
      · rfl

theorem append_same {P : Program} {t ty e : TypeId} {d : ATy} (hu : P.underlying t = some (.slice e)) (he : d.ok P e) (base : Option Addr) (n k m : Nat) (x : Value) (hx : (x = .slice none 0 0 ∧ m = 0) ∨ ∃ a kk, x = .slice (some a) m kk)
    (hm : m = 0) (hk : n ≤ k) : (Builtin.append_ #[t, t] ty #[.slice base n k, x]).run P w = .ok (.slice base n k) w := by
  obtain ⟨_, i, z, hi, hs, hb, hz, _⟩ := he
  subst hm
  rcases hx with ⟨rfl, _⟩ | ⟨a, kk, rfl⟩
  · cases base <;> simp [Builtin.append_, run_underlying hu, sizeOf, typeInfo, hi, Builtin.lenOf, hk, Builtin.firstCells, storeCells]
  · cases base <;> simp [Builtin.append_, run_underlying hu, sizeOf, typeInfo, hi, Builtin.lenOf, hk, Builtin.firstCells, loadCells, loadCellsFrom, storeCells]

theorem RepAll_news {c : TC} {ys : List c.den} {l : List Value} (h : RepAll (RepD ι c) ys l) : l.length = ys.length * c.size := h.len (RepD_len c)

theorem append_nil_ok {t ty e : TypeId} {de : ATy} {c : TC} {x : AV} {q : List Prop} {ys : List c.den} {cx : Value} (hu : E.P.underlying t = some (.slice e)) (he : de.ok E.P e) (hc : c.size = de.size) (h : appL c H x = some (q, ys)) (hq : holds q)
    (r : HRel ι H w) (hx : RepV ι x cx) (hpos : 0 < ys.length) (hb : ys.length * de.bytes ≤ 2 ^ 40) (hn : ys.length ≤ 2 ^ 40) :
    ∃ ι' w' u, (Builtin.append_ #[t, t] ty #[.slice none 0 0, cx]).run E.P w = .ok u w' ∧ Ext ι ι' ∧ HRel ι' (H ++ [.cell true e (.arr ys.length c ys)]) w' ∧ RepV ι' (.osl H.length [] c.size 0 ys.length none) u := by
  obtain ⟨l, hl, hcx⟩ := appL_ok h hq r hx
  rcases hcx with ⟨rfl, _⟩ | ⟨b, off, k, rfl, hcells⟩
  · simp at hpos
  · obtain ⟨i, z, hi, hs, hby, hz, hzs⟩ := zero_cells he
    have hlen := RepAll_news hl
    have hrun := run_append_nil (P := E.P) w t ty e i z hu hi hz ⟨b, off, none⟩ ys.length k l (by rw [hs, ← hc]; exact hlen) hcells hpos (by omega) (by rw [hby]; omega)
    have r' := r.drew (w.drawn + 1)
    have hge := grownCap_ge w ys.length 0 e
    generalize hcap : grownCap w ys.length 0 e = cap at hrun hge
    generalize hcs : l.toArray ++ Builtin.zeroCells z.cells (cap - ys.length) = cs at hrun
    have hl' : cs.toList = l ++ (Builtin.zeroCells z.cells (cap - ys.length)).toList := by rw [← hcs]; simp
    have hE := Ext.add ι w.heap.size cs.size
    refine ⟨ι.add w.heap.size cs.size, _, _, hrun, hE, ?_, ?_⟩
    · refine r'.alloc (.cells cs e) cs.size _ ⟨cs, (0, 0), l, _, heap_alloc_new, hl', rfl, ?_, by simp⟩
      rw [Rep]
      exact ⟨rfl, hl.mono (fun x m => RepD_mono' hE.sub c x m)⟩
    · refine RepV_of_rep rfl ?_
      rw [Rep]
      refine ⟨w.heap.size, cs.size, cap, by rw [r.len]; exact ι.add_at _ _, by simp [pathOff], hge, ?_, by simp⟩
      rw [← hcs]
      simp only [pathOff, Array.size_append, List.size_toArray, size_zeroCells, hzs, hlen, hc]
      rw [← Nat.add_mul, show ys.length + (cap - ys.length) = cap by omega, Nat.zero_add, Nat.zero_add]
      exact Nat.le_refl _

theorem append_own_ok {t ty e : TypeId} {de : ATy} {c : TC} {x : AV} {q : List Prop} {ys : List c.den} {cx cs : Value} {ob len : Nat} {xs : List c.den} (hu : E.P.underlying t = some (.slice e)) (he : de.ok E.P e) (hc : c.size = de.size)
    (h : appL c H x = some (q, ys)) (hq : holds q) (r : HRel ι H w) (hx : RepV ι x cx) (hs : RepV ι (.osl ob [] c.size 0 len none) cs) (hob : H[ob]? = some (.cell true e (.arr len c xs)))
    (hb : (len + ys.length) * de.bytes ≤ 2 ^ 40) (hn : len + ys.length ≤ 2 ^ 40) :
    ∃ ι' w' u, (Builtin.append_ #[t, t] ty #[cs, cx]).run E.P w = .ok u w' ∧ Ext ι ι' ∧ HRel ι' (H.set ob .dead ++ [.cell true e (.arr (len + ys.length) c (xs ++ ys))]) w' ∧
      RepV ι' (.osl H.length [] c.size 0 (len + ys.length) none) u := by
  obtain ⟨l, hl, hcx⟩ := appL_ok h hq r hx
  obtain ⟨b, z, k, hbk, hcs0, hk, hkz, _⟩ := osl_of hs
  have hp0 : pathOff [] + 0 * c.size = 0 := by simp [pathOff]
  rw [hp0] at hcs0; subst hcs0
  obtain ⟨cells, fz, lo, rr, e1, e2, e3, e4, e5⟩ := (r.obj _ _ _ _ hob hbk).cell
  have e5 := e5 rfl; subst e5
  rw [Rep] at e4
  obtain ⟨hxs, hr⟩ := e4
  have hll := RepAll_news hl
  have hlo := RepAll_news hr
  simp only [pathOff, Nat.zero_add] at hkz
  have hE := Ext.add ι b z
  have hnew : RepAll (RepD ι c) (xs ++ ys) (lo ++ l) := hr.app hl
  have hnl : (xs ++ ys).length = len + ys.length := by simp [hxs]
  -- the same block again
  have same : ∀ (w' : World) (cells' : Array Value) (rr' : List Value), (∀ k, k ≠ b → w'.heap[k]? = w.heap[k]?) → w'.heap.size = w.heap.size → w'.os = w.os → w'.tape = w.tape → w'.output = w.output →
      w'.heap[b]? = some (.cells cells' e (0, 0)) → cells'.toList = (lo ++ l) ++ rr' → cells'.size = z → len + ys.length ≤ k →
      HRel (ι.add b z) (H.set ob .dead ++ [.cell true e (.arr (len + ys.length) c (xs ++ ys))]) w' ∧ RepV (ι.add b z) (.osl H.length [] c.size 0 (len + ys.length) none) (.slice (some ⟨b, 0, none⟩) (len + ys.length) k) := by
    intro w' cells' rr' h1 h2 h3 h4 h5 h6 h7 h8 h9
    refine ⟨r.move hob rfl hbk h1 h2 h3 h4 h5 ⟨cells', (0, 0), lo ++ l, rr', h6, h7, h8, ?_, by simp⟩, RepV_of_rep rfl ?_⟩
    · rw [Rep]; exact ⟨hnl, hnew.mono (fun x m => RepD_mono' hE.sub c x m)⟩
    · rw [Rep]
      exact ⟨b, z, k, by rw [r.len]; exact ι.add_at _ _, by rw [hp0], h9, by simp only [pathOff, Nat.zero_add]; exact hkz, by simp⟩
  obtain ⟨i, zv, hi, hsi, hby, hz, hzs⟩ := zero_cells he
  rcases hcx with ⟨rfl, hcx⟩ | ⟨b2, off, k2, rfl, hcells⟩
  · cases hl
    obtain ⟨hH, hR⟩ := same w cells rr (fun _ _ => rfl) rfl rfl rfl rfl e1 (by simpa using e2) e3 (by simpa using hk)
    exact ⟨_, w, _, append_same hu he _ len k 0 _ (hcx.imp (fun h => ⟨h, rfl⟩) (fun ⟨a, h⟩ => ⟨a, 0, h⟩)) rfl hk, hE, hH, hR⟩
  · by_cases hroom : len + ys.length ≤ k
    · have hfit : len * i.size + l.length ≤ cells.size := by
        rw [hll, hsi, ← hc, e3, ← Nat.add_mul]
        exact Nat.le_trans (Nat.mul_le_mul_right _ hroom) hkz
      have hrun := run_append_room (P := E.P) w t ty e i hu hi b len k cells e1 ⟨b2, off, none⟩ ys.length k2 l (by rw [hsi, ← hc]; exact hll) hcells (hl.mem (fun x m h => RepD_one c x m h)) hroom hfit
      have hlen : len * i.size = lo.length := by rw [hlo, hxs, hsi, hc]
      refine ⟨_, _, _, hrun, hE, ?_⟩
      have := same (w.setRow b (cells.toList.take (len * i.size) ++ l ++ cells.toList.drop (len * i.size + l.length)).toArray) _ (rr.drop l.length) (fun k hk => setRow_other w b k _ hk) (by simp) rfl rfl rfl
        (setRow_heap w b cells _ e _ e1) (by rw [hlen, e2]; simp) (by
          rw [← e3, hlen, e2]
          have : l.length ≤ rr.length := by
            rw [← Array.length_toList, e2, hlen] at hfit; simp at hfit; exact hfit
          have hcz : cells.size = lo.length + rr.length := by rw [← Array.length_toList, e2]; simp
          rw [hcz]
          simp; omega) hroom
      exact this
    · have hrun := run_append_grow (P := E.P) w t ty e i zv hu hi hz ⟨b, 0, none⟩ len k lo (by rw [hlo, hxs, hsi, hc]) (fun j u hu => by rw [addr_add, cell_of e1, Nat.zero_add, ← Array.getElem?_toList, e2, List.getElem?_append_left (List.getElem?_eq_some_iff.1 hu).1]; exact hu)
        ⟨b2, off, none⟩ ys.length k2 l (by rw [hsi, ← hc]; exact hll) hcells (by omega) (by omega) (growslice_fits (by omega) (by rw [hby]; omega))
      have hge := grownCap_ge w (len + ys.length) k e
      generalize hcap : grownCap w (len + ys.length) k e = cap at hrun hge
      generalize hcs : lo.toArray ++ l.toArray ++ Builtin.zeroCells zv.cells (cap - (len + ys.length)) = cs at hrun
      have hl' : cs.toList = (lo ++ l) ++ (Builtin.zeroCells zv.cells (cap - (len + ys.length))).toList := by rw [← hcs]; simp
      have r' := (r.drew (w.drawn + 1)).kill (i := ob)
      have hE' := Ext.add ι w.heap.size cs.size
      refine ⟨ι.add w.heap.size cs.size, _, _, hrun, hE', ?_, ?_⟩
      · refine r'.alloc (.cells cs e) cs.size _ ⟨cs, (0, 0), lo ++ l, _, heap_alloc_new, hl', rfl, ?_, by simp⟩
        rw [Rep]
        exact ⟨hnl, hnew.mono (fun x m => RepD_mono' hE'.sub c x m)⟩
      · refine RepV_of_rep rfl ?_
        rw [Rep]
        refine ⟨w.heap.size, cs.size, cap, by rw [r.len]; exact ι.add_at _ _, by simp [pathOff], hge, ?_, by simp⟩
        rw [← hcs]
        simp only [pathOff, Array.size_append, List.size_toArray, size_zeroCells, hzs, hlo, hll, hxs, hc]
        rw [← Nat.add_mul, ← Nat.add_mul, show len + ys.length + (cap - (len + ys.length)) = cap by omega, Nat.zero_add, Nat.zero_add]
        exact Nat.le_refl _

theorem append_cap_grow_ok {t ty e : TypeId} {de : ATy} {c : TC} {x : AV} {q : List Prop} {ys : List c.den} {cx cs : Value} {ob off len m k : Nat} {xs : List c.den} (hu : E.P.underlying t = some (.slice e)) (he : de.ok E.P e) (hc : c.size = de.size)
    (h : appL c H x = some (q, ys)) (hq : holds q) (r : HRel ι H w) (hx : RepV ι x cx) (hs : RepV ι (.osl ob [] c.size off len (some k)) cs) (hob : H[ob]? = some (.cell true e (.arr m c xs))) (hol : off + len ≤ m)
    (hb : (len + ys.length) * de.bytes ≤ 2 ^ 40) (hn : len + ys.length ≤ 2 ^ 40) (hgrow : k < len + ys.length) :
    ∃ ι' w' u, (Builtin.append_ #[t, t] ty #[cs, cx]).run E.P w = .ok u w' ∧ Ext ι ι' ∧ HRel ι' (H ++ [.cell true e (.arr (len + ys.length) c ((xs.drop off).take len ++ ys))]) w' ∧
      RepV ι' (.osl H.length [] c.size 0 (len + ys.length) none) u := by
  obtain ⟨l, hl, hcx⟩ := appL_ok h hq r hx
  obtain ⟨b, z, kk, hbk, rfl, hk, hkz, hkk⟩ := osl_of hs
  have := hkk k rfl; subst this
  obtain ⟨cells, fz, lo, rr, e1, e2, e3, e4, e5⟩ := (r.obj _ _ _ _ hob hbk).cell
  rw [Rep] at e4
  obtain ⟨hxs, hr⟩ := e4
  have hll := RepAll_news hl
  obtain ⟨m1, m2, em, em1, hm1, hm2⟩ := hr.split (RepD_len c) off (by omega)
  obtain ⟨k1, k2, ek, ek1, hs1, hs2⟩ := hm2.split (RepD_len c) len (by simp; omega)
  have hnl : ((xs.drop off).take len ++ ys).length = len + ys.length := by simp; omega
  obtain ⟨i, zv, hi, hsi, hby, hz, hzs⟩ := zero_cells he
  rcases hcx with ⟨rfl, hcx⟩ | ⟨b2, off2, k2', rfl, hcells⟩
  · simp at hgrow; omega
  · have hp0 : pathOff [] + off * c.size = off * c.size := by simp [pathOff]
    have hrun := run_append_grow (P := E.P) w t ty e i zv hu hi hz ⟨b, off * c.size, none⟩ len kk k1 (by rw [ek1, hsi, hc]) (fun j u hu => by
        rw [addr_add, cell_of e1]
        have : off * c.size = m1.length := em1.symm
        rw [this]
        exact At.mid (l2 := k2 ++ rr) (by rw [e2, em, ek]; simp) j u hu)
      ⟨b2, off2, none⟩ ys.length k2' l (by rw [hsi, ← hc]; exact hll) hcells hgrow (by omega) (growslice_fits (by omega) (by rw [hby]; omega))
    have hge := grownCap_ge w (len + ys.length) kk e
    generalize hcap : grownCap w (len + ys.length) kk e = cap at hrun hge
    generalize hcs : k1.toArray ++ l.toArray ++ Builtin.zeroCells zv.cells (cap - (len + ys.length)) = cs at hrun
    have hl' : cs.toList = (k1 ++ l) ++ (Builtin.zeroCells zv.cells (cap - (len + ys.length))).toList := by rw [← hcs]; simp
    have r' := r.drew (w.drawn + 1)
    have hE' := Ext.add ι w.heap.size cs.size
    rw [hp0]
    refine ⟨ι.add w.heap.size cs.size, _, _, hrun, hE', ?_, ?_⟩
    · refine r'.alloc (.cells cs e) cs.size _ ⟨cs, (0, 0), k1 ++ l, _, heap_alloc_new, hl', rfl, ?_, by simp⟩
      rw [Rep]
      exact ⟨hnl, (hs1.app hl).mono (fun x m => RepD_mono' hE'.sub c x m)⟩
    · refine RepV_of_rep rfl ?_
      rw [Rep]
      refine ⟨w.heap.size, cs.size, cap, by rw [r.len]; exact ι.add_at _ _, by simp [pathOff], hge, ?_, by simp⟩
      rw [← hcs]
      simp only [pathOff, Array.size_append, List.size_toArray, size_zeroCells, hzs, ek1, hll, hc]
      rw [← Nat.add_mul, ← Nat.add_mul, show len + ys.length + (cap - (len + ys.length)) = cap by omega, Nat.zero_add, Nat.zero_add]
      exact Nat.le_refl _

theorem sl_desc (hV : E.Valid) {t e : TypeId} {d de : ATy} (hd : E.ty t = some d) (he : elemD E d = some (e, de)) (hs : isSl d = true) : E.P.underlying t = some (.slice e) ∧ de.ok E.P e := by
  obtain ⟨he1, he2⟩ := elemD_ok hV he
  have hdesc : d.desc = .slice e := by
    rcases he2 with h' | ⟨m, h'⟩
    · exact h'
    · unfold isSl at hs; rw [h'] at hs; cases hs
  have hu := (hV.ty _ _ hd).1
  rw [hdesc] at hu
  exact ⟨hu, he1⟩

theorem appD_ok (hV : E.Valid) {t1 ty : TypeId} {s x v : AV} {q : List Prop} {H' : Heap} {cs cx : Value} (h : appD E H t1 s x = some (q, v, H')) (hq : holds q) (r : HRel ι H w) (hs : RepV ι s cs) (hx : RepV ι x cx) :
    ∃ ι' w' u, (Builtin.append_ #[t1, t1] ty #[cs, cx]).run E.P w = .ok u w' ∧ Ext ι ι' ∧ HRel ι' H' w' ∧ RepV ι' v u := by
  unfold appD at h
  split at h
  case h_2 => cases h
  rename_i d hd
  split at h
  case h_2 => cases h
  rename_i e de he
  split at h
  case h_2 => cases h
  rename_i c hsl hc
  obtain ⟨hu, he1⟩ := sl_desc hV hd he hsl
  split at h
  case isFalse => cases h
  rename_i hcond
  split at h
  case h_2 => cases h
  rename_i q1 ys0 happ
  split at h
  · simp only [Option.some.injEq, Prod.mk.injEq] at h; obtain ⟨rfl, rfl, rfl⟩ := h
    have hus := hs.raw; subst hus
    obtain ⟨l, hl, hcx⟩ := appL_ok happ hq r hx
    refine ⟨ι, w, _, ?_, Ext.refl ι, r, hs⟩
    refine append_same hu he1 none 0 0 0 cx ?_ rfl (Nat.le_refl _)
    rcases hcx with ⟨_, h0 | ⟨a0, h0⟩⟩ | ⟨b, off, k, rfl, _⟩
    · exact .inl ⟨h0, rfl⟩
    · exact .inr ⟨a0, 0, h0⟩
    · exact .inr ⟨_, k, rfl⟩
  · rename_i y ys
    simp only [Option.some.injEq, Prod.mk.injEq] at h; obtain ⟨rfl, rfl, rfl⟩ := h
    rw [holds_app] at hq
    obtain ⟨hq1, h1, h2, _⟩ := hq
    have := hs.raw; subst this
    exact append_nil_ok hu he1 hcond.1 happ hq1 r hx (by simp) h1 h2
  · rename_i _ ob s0 len
    split at h
    case h_2 => cases h
    rename_i t m c' xs hob
    split at h
    case isFalse => cases h
    rename_i hcc; subst hcc
    split at h
    case isFalse => cases h
    rename_i hst
    simp only [Option.some.injEq, Prod.mk.injEq] at h; obtain ⟨rfl, rfl, rfl⟩ := h
    rw [holds_app] at hq
    obtain ⟨hq1, hm, h1, h2, _⟩ := hq
    obtain ⟨rfl, rfl⟩ := hst
    have hm : len = m := hm
    subst hm
    exact append_own_ok hu he1 hcond.1 happ hq1 r hx hs hob h1 h2
  · rename_i ob s0 off len k y ys
    split at h
    case h_2 => cases h
    rename_i t m c' xs hob
    split at h
    case isFalse => cases h
    rename_i hcc; subst hcc
    split at h
    case isFalse => cases h
    rename_i hst
    simp only [Option.some.injEq, Prod.mk.injEq] at h; obtain ⟨rfl, rfl, rfl⟩ := h
    rw [holds_app] at hq
    obtain ⟨hq1, h0, h1, h2, _⟩ := hq
    obtain ⟨rfl, rfl, hk⟩ := hst
    exact append_cap_grow_ok hu he1 hcond.1 happ hq1 r hx hs hob h0 h1 h2 hk
  · cases h

theorem zeros_cells {c : TC} {z : c.den} {P : Program} {e : TypeId} {de : ATy} (he : de.ok P e) (hz : toD c de.zero = some z) : ∃ i zv, P.info? e = some i ∧ i.size = de.size ∧ i.bytes = de.bytes ∧ i.zero = some zv ∧ zv.cells.size = de.size ∧ ∀ ι, RepD ι c z zv.cells.toList := by
  obtain ⟨hdesc, i, zv, hi, hsi, hby, hzv, hzr, _, h6⟩ := he
  refine ⟨i, zv, hi, hsi, hby, hzv, ?_, fun ι => Rep_ofD.1 (Rep_ofD.2 (Rep_toD hz (hzr ι).cells))⟩
  rw [← Array.length_toList, Rep_len _ _ (hzr ⟨default, fun _ => none, []⟩).cells, h6]

theorem zerosA_ok (hV : E.Valid) {t1 t2 ty : TypeId} {s x v : AV} {q : List Prop} {H' : Heap} {cs cx : Value} (h : zerosA E H t1 t2 s x = some (q, v, H')) (hq : holds q) (r : HRel ι H w) (hs : RepV ι s cs) (hx : RepV ι x cx) :
    ∃ ι' w' u, (Builtin.append_ #[t1, t2] ty #[cs, cx]).run E.P w = .ok u w' ∧ Ext ι ι' ∧ HRel ι' H' w' ∧ RepV ι' v u := by
  unfold zerosA at h
  split at h
  case h_2 => cases h
  rename_i d d2 kn n hd hd2
  split at h
  case h_2 => cases h
  rename_i kk e de hdesc2 he
  split at h
  case h_2 => cases h
  rename_i c hsl hc
  obtain ⟨hu, he1⟩ := sl_desc hV hd he hsl
  have hu2 := (hV.ty _ _ hd2).1
  rw [hdesc2] at hu2
  split at h
  case h_2 => cases h
  rename_i z hz
  split at h
  case isFalse => cases h
  rename_i hcond
  obtain ⟨i, zv, hi, hsi, hby, hzv, hzs, hzr⟩ := zeros_cells he1 hz
  rw [hx.int]
  have hzl : ∀ n, (Builtin.zeroCells zv.cells n).toList = (List.replicate n zv.cells.toList).flatten := fun n => by
    simpa [Builtin.zeroCells] using range_cells zv.cells n
  split at h
  · simp only [Option.some.injEq, Prod.mk.injEq] at h; obtain ⟨rfl, rfl, rfl⟩ := h
    obtain ⟨h0, h1, h2, _⟩ := hq
    have := hs.raw; subst this
    obtain ⟨m, rfl⟩ : ∃ m : Nat, n = m := ⟨n.toNat, by omega⟩
    simp only [Int.toNat_natCast] at h1 h2 ⊢
    have hrun := Lib.run_append_nil_zeros (P := E.P) w t1 t2 ty e i zv kn kk hu hu2 hi hzv m (by omega) (by rw [hsi]; omega) (by omega) (by rw [hby]; omega)
    have r' := r.drew (w.drawn + 1)
    have hge := grownCap_ge w m 0 e
    generalize hcap : grownCap w m 0 e = cap at hrun hge
    generalize hcs : Builtin.zeroCells zv.cells m ++ Builtin.zeroCells zv.cells (cap - m) = cs at hrun
    have hl' : cs.toList = (List.replicate m zv.cells.toList).flatten ++ (Builtin.zeroCells zv.cells (cap - m)).toList := by rw [← hcs, Array.toList_append, hzl]
    have hE := Ext.add ι w.heap.size cs.size
    refine ⟨ι.add w.heap.size cs.size, _, _, hrun, hE, ?_, ?_⟩
    · refine r'.alloc (.cells cs e) cs.size _ ⟨cs, (0, 0), _, _, heap_alloc_new, hl', rfl, ?_, by simp⟩
      rw [Rep]
      exact ⟨by simp, RepAll_replicate (hzr _) m⟩
    · refine RepV_of_rep rfl ?_
      rw [Rep]
      refine ⟨w.heap.size, cs.size, cap, by rw [r.len]; exact ι.add_at _ _, by simp [pathOff], hge, ?_, by simp⟩
      rw [← hcs]
      simp only [pathOff, Array.size_append, size_zeroCells, hzs, hcond.1]
      rw [← Nat.add_mul, show m + (cap - m) = cap by omega, Nat.zero_add, Nat.zero_add]
      exact Nat.le_refl _
  · rename_i ob s0 off len k
    split at h
    case h_2 => cases h
    rename_i t m c' xs hob
    split at h
    case isFalse => cases h
    rename_i hcc; subst hcc
    split at h
    case isFalse => cases h
    rename_i hst
    simp only [Option.some.injEq, Prod.mk.injEq] at h; obtain ⟨rfl, rfl, rfl⟩ := h
    obtain ⟨h0, hk, hol, h1, h2, _⟩ := hq
    obtain ⟨rfl, rfl⟩ := hst
    obtain ⟨mm, rfl⟩ : ∃ m : Nat, n = m := ⟨n.toNat, by omega⟩
    simp only [Int.toNat_natCast] at hk h1 h2 ⊢
    obtain ⟨b, zz, kk', hbk, rfl, hkl, hkz, hkk⟩ := osl_of hs
    have := hkk k rfl; subst this
    obtain ⟨cells, fz, lo, rr, e1, e2, e3, e4, e5⟩ := (r.obj _ _ _ _ hob hbk).cell
    rw [Rep] at e4
    obtain ⟨hxs, hr⟩ := e4
    obtain ⟨m1, m2, em, em1, hm1, hm2⟩ := hr.split (RepD_len c') off (by omega)
    obtain ⟨k1, k2, ek, ek1, hs1, hs2⟩ := hm2.split (RepD_len c') len (by simp; omega)
    have hnl : ((xs.drop off).take len ++ List.replicate mm z).length = len + mm := by simp; omega
    have hp0 : pathOff [] + off * c'.size = off * c'.size := by simp [pathOff]
    have hold := run_firstCells_some (P := E.P) w.drew i.size len ⟨b, off * c'.size, none⟩ len kk' k1 (by rw [ek1, hsi, hcond.1]) (fun j u hu => by
        rw [show w.drew.cell? = w.cell? from rfl, addr_add, cell_of e1]
        have : off * c'.size = m1.length := em1.symm
        rw [this]
        exact At.mid (l2 := k2 ++ rr) (by rw [e2, em, ek]; simp) j u hu)
    have hrun := Lib.run_append_grow_zeros (P := E.P) w t1 t2 ty t i zv kn kk hu hu2 hi hzv (some ⟨b, off * c'.size, none⟩) len kk' k1 hold mm (by omega) (by rw [hsi]; omega) hk (by omega) (by rw [hby]; exact Nat.le_trans (Nat.mul_le_mul_right _ (Nat.le_add_left mm len)) (Nat.le_trans h1 (by decide))) (growslice_fits (by omega) (by rw [hby]; omega))
    have r' := r.drew (w.drawn + 1)
    have hge := grownCap_ge w (len + mm) kk' t
    generalize hcap : grownCap w (len + mm) kk' t = cap at hrun hge
    generalize hcs : k1.toArray ++ Builtin.zeroCells zv.cells mm ++ Builtin.zeroCells zv.cells (cap - (len + mm)) = cs at hrun
    have hl' : cs.toList = (k1 ++ (List.replicate mm zv.cells.toList).flatten) ++ (Builtin.zeroCells zv.cells (cap - (len + mm))).toList := by rw [← hcs]; simp only [Array.toList_append, hzl]
    have hE' := Ext.add ι w.heap.size cs.size
    rw [hp0]
    refine ⟨ι.add w.heap.size cs.size, _, _, hrun, hE', ?_, ?_⟩
    · refine r'.alloc (.cells cs t) cs.size _ ⟨cs, (0, 0), _, _, heap_alloc_new, hl', rfl, ?_, by simp⟩
      rw [Rep]
      exact ⟨hnl, (hs1.mono (fun x m => RepD_mono' hE'.sub c' x m)).app (RepAll_replicate (hzr _) mm)⟩
    · refine RepV_of_rep rfl ?_
      rw [Rep]
      refine ⟨w.heap.size, cs.size, cap, by rw [r.len]; exact ι.add_at _ _, by simp [pathOff], hge, ?_, by simp⟩
      rw [← hcs]
      simp only [pathOff, Array.size_append, List.size_toArray, size_zeroCells, hzs, ek1, hcond.1]
      rw [← Nat.add_mul, ← Nat.add_mul, show len + mm + (cap - (len + mm)) = cap by omega, Nat.zero_add, Nat.zero_add]
      exact Nat.le_refl _
  · cases h

theorem append_cap_room_ok {t ty e : TypeId} {de : ATy} {c : TC} {x : AV} {q : List Prop} {ys : List c.den} {cx cs : Value} {ob off len m k : Nat} {xs : List c.den} (hu : E.P.underlying t = some (.slice e)) (he : de.ok E.P e) (hc : c.size = de.size)
    (h : appL c H x = some (q, ys)) (hq : holds q) (r : HRel ι H w) (hx : RepV ι x cx) (hs : RepV ι (.osl ob [] c.size off len (some k)) cs) (hob : H[ob]? = some (.cell true e (.arr m c xs))) (hol : off + len + ys.length ≤ m)
    (hroom : len + ys.length ≤ k) :
    ∃ w' u, (Builtin.append_ #[t, t] ty #[cs, cx]).run E.P w = .ok u w' ∧ HRel ι (H.set ob (.cell true e (.arr m c (spliceL xs (off + len) ys)))) w' ∧ RepV ι (.osl ob [] c.size off (len + ys.length) (some k)) u := by
  obtain ⟨l, hl, hcx⟩ := appL_ok h hq r hx
  obtain ⟨b, z, kk, hbk, rfl, hk, hkz, hkk⟩ := osl_of hs
  have := hkk k rfl; subst this
  obtain ⟨cells, fz, lo, rr, e1, e2, e3, e4, e5⟩ := (r.obj _ _ _ _ hob hbk).cell
  have e5 := e5 rfl; subst e5
  rw [Rep] at e4
  obtain ⟨hxs, hr⟩ := e4
  have hll := RepAll_news hl
  have hout : RepV ι (.osl ob [] c.size off (len + ys.length) (some kk)) (.slice (some ⟨b, pathOff [] + off * c.size, none⟩) (len + ys.length) kk) := by
    refine RepV_of_rep rfl ?_
    rw [Rep]
    exact ⟨b, z, kk, hbk, rfl, hroom, hkz, by simp⟩
  rcases hcx with ⟨rfl, hcx⟩ | ⟨b2, off2, k2', rfl, hcells⟩
  · refine ⟨w, _, append_same hu he _ len kk 0 _ (hcx.imp (fun h => ⟨h, rfl⟩) (fun ⟨a, h⟩ => ⟨a, 0, h⟩)) rfl hk, ?_, hout⟩
    refine r.upd (z := z) hob rfl hbk (fun _ _ => rfl) rfl rfl rfl rfl ⟨cells, (0, 0), lo, rr, e1, e2, e3, ?_, by simp⟩
    rw [Rep, spliceL_nil]; exact ⟨hxs, hr⟩
  · obtain ⟨_, i, zv, hi, hsi, _⟩ := he
    obtain ⟨m1, m2, em, em1, hm1, hm2⟩ := hr.split (RepD_len c) (off + len) (by omega)
    obtain ⟨k1, k3, ek, ek1, _, hk2⟩ := hm2.split (RepD_len c) ys.length (by simp; omega)
    have hf := run_firstCells_some (P := E.P) w i.size ys.length ⟨b2, off2, none⟩ ys.length k2' l (by rw [hsi, ← hc]; exact hll) hcells
    have hlen : (off + len) * c.size + l.length ≤ cells.size := by
      rw [hll, ← Array.length_toList, e2, em, ek]; simp [em1, ek1]
    have hst := run_storeCells_at E.P b ((off + len) * c.size) e l 0 cells w e1 (by simpa using hlen) (hl.mem (fun x m h => RepD_one c x m h))
    simp only [Nat.add_zero] at hst
    have hp0 : pathOff [] + off * c.size = off * c.size := by simp [pathOff]
    have ha : (⟨b, off * c.size, none⟩ : Addr).add (len * i.size) = ⟨b, (off + len) * c.size, none⟩ := by rw [addr_add, hsi, ← hc, ← Nat.add_mul]
    refine ⟨w.setRow b (cells.toList.take ((off + len) * c.size) ++ l ++ cells.toList.drop ((off + len) * c.size + l.length)).toArray, _, ?_, ?_, hout⟩
    · rw [hp0]
      simp [Builtin.append_, run_underlying hu, sizeOf, typeInfo, hi, Builtin.lenOf, hroom, hf, ha, hst]
    · have hcs : cells.toList.take ((off + len) * c.size) ++ l ++ cells.toList.drop ((off + len) * c.size + l.length) = (m1 ++ (l ++ k3)) ++ rr := by
        have a1 : (off + len) * c.size = m1.length := em1.symm
        have a2 : l.length = k1.length := by rw [hll, ek1]
        rw [a1, a2, e2, em, ek]
        simp only [List.append_assoc]
        rw [List.take_left' rfl, ← List.length_append, ← List.append_assoc m1 k1, List.drop_left' rfl]
      refine r.upd (z := z) hob rfl hbk (fun k hk => setRow_other w b k _ hk) (by simp) rfl rfl rfl
        ⟨_, (0, 0), m1 ++ (l ++ k3), rr, setRow_heap w b cells _ e _ e1, by rw [hcs], ?_, ?_, by simp⟩
      · have hz : cells.toList.length = z := by rw [Array.length_toList]; exact e3
        rw [e2, em, ek] at hz
        rw [hcs, ← hz]; simp; omega
      · rw [Rep]
        refine ⟨?_, ?_⟩
        · simp [spliceL]; omega
        · unfold spliceL
          refine hm1.app (hl.app ?_)
          rw [← List.drop_drop]
          exact hk2
end Go.Eng
end
section
/- Appends whose new capacity is known: for all capacities. -/
namespace Go.Eng
open Go.RowKit
variable {E : Env} {ι : Inst} {T : List AV} {H : Heap} {a : Act} {w : World}

theorem fresh_exact {e : TypeId} {c : TC} {z : c.den} {zv : Value} {xs : List c.den} {l : List Value} {n cap : Nat} {cs : Array Value} (r : HRel ι H w) (hzr : ∀ ι, RepD ι c z zv.cells.toList) (hl : RepAll (RepD ι c) xs l) (hn : xs.length = n) (hge : n ≤ cap)
    (hcs : cs.toList = l ++ (Builtin.zeroCells zv.cells (cap - n)).toList) :
    ∃ j, n + j = cap ∧ HRel (ι.add w.heap.size cs.size) (H ++ [.cell true e (.arr (n + j) c (xs ++ List.replicate j z))]) (w.alloc (.cells cs e)) ∧
      RepV (ι.add w.heap.size cs.size) (.osl H.length [] c.size 0 n (some (n + j))) (.slice (some ⟨w.heap.size, 0, none⟩) n cap) := by
  obtain ⟨j, rfl⟩ : ∃ j, cap = n + j := ⟨cap - n, by omega⟩
  have hj : n + j - n = j := by omega
  rw [hj] at hcs
  have hzl : (Builtin.zeroCells zv.cells j).toList = (List.replicate j zv.cells.toList).flatten := by simpa [Builtin.zeroCells] using range_cells zv.cells j
  have hE := Ext.add ι w.heap.size cs.size
  have hsz : cs.size = (n + j) * c.size := by
    have h1 := hl.len (RepD_len c)
    have h2 := (RepAll_replicate (hzr ι) j).len (RepD_len c)
    rw [← Array.length_toList, hcs, List.length_append, hzl, h1, h2, hn, List.length_replicate, Nat.add_mul]
  refine ⟨j, rfl, ?_, ?_⟩
  · refine r.alloc (.cells cs e) cs.size _ ⟨cs, (0, 0), cs.toList, [], heap_alloc_new, by simp, rfl, ?_, by simp⟩
    rw [Rep, hcs, hzl]
    exact ⟨by simp [hn], (hl.mono (fun x m => RepD_mono' hE.sub c x m)).app (RepAll_replicate (hzr _) j)⟩
  · refine RepV_of_rep rfl ?_
    rw [Rep]
    refine ⟨w.heap.size, cs.size, n + j, by rw [r.len]; exact ι.add_at _ _, by simp [pathOff], hge, ?_, by simp⟩
    rw [hsz]; simp [pathOff]

/-- What a growing append comes to: some capacity, the cells beyond being zeros. -/
def GrownX (E : Env) (ι : Inst) (e : TypeId) (c : TC) (z : c.den) (H : Heap) (n : Nat) (xs : List c.den) (w : World) (m : Sem Value) : Prop :=
  ∃ ι' w' u j, m.run E.P w = .ok u w' ∧ Ext ι ι' ∧ HRel ι' (H ++ [.cell true e (.arr (n + j) c (xs ++ List.replicate j z))]) w' ∧ RepV ι' (.osl H.length [] c.size 0 n (some (n + j))) u

theorem nil_exact {t ty e : TypeId} {de : ATy} {c : TC} {z : c.den} {x : AV} {q : List Prop} {ys : List c.den} {cx : Value} (hu : E.P.underlying t = some (.slice e)) (he : de.ok E.P e) (hc : c.size = de.size) (hz : toD c de.zero = some z) (h : appL c H x = some (q, ys)) (hq : holds q)
    (r : HRel ι H w) (hx : RepV ι x cx) (hpos : 0 < ys.length) (hb : ys.length * de.bytes ≤ 2 ^ 40) (hn : ys.length ≤ 2 ^ 40) :
    GrownX E ι e c z H ys.length ys w (Builtin.append_ #[t, t] ty #[.slice none 0 0, cx]) := by
  obtain ⟨l, hl, hcx⟩ := appL_ok h hq r hx
  rcases hcx with ⟨rfl, _⟩ | ⟨b, off, k, rfl, hcells⟩
  · simp at hpos
  · obtain ⟨i, zv, hi, hs, hby, hzv, hzs, hzr⟩ := zeros_cells he hz
    have hlen := RepAll_news hl
    have hrun := run_append_nil (P := E.P) w t ty e i zv hu hi hzv ⟨b, off, none⟩ ys.length k l (by rw [hs, ← hc]; exact hlen) hcells hpos (by omega) (by rw [hby]; omega)
    obtain ⟨j, hj, h1, h2⟩ := fresh_exact (e := e) (cs := l.toArray ++ Builtin.zeroCells zv.cells (grownCap w ys.length 0 e - ys.length)) (r.drew (w.drawn + 1)) hzr hl rfl (grownCap_ge w ys.length 0 e) (by simp)
    exact ⟨_, _, _, j, hrun, Ext.add ι _ _, h1, h2⟩

theorem grow_exact {t ty e : TypeId} {de : ATy} {c : TC} {z : c.den} {x : AV} {q : List Prop} {ys : List c.den} {cx cs : Value} {ob off len m k : Nat} {xs : List c.den} (hu : E.P.underlying t = some (.slice e)) (he : de.ok E.P e) (hc : c.size = de.size) (hz : toD c de.zero = some z)
    (h : appL c H x = some (q, ys)) (hq : holds q) (r : HRel ι H w) (hx : RepV ι x cx) (hs : RepV ι (.osl ob [] c.size off len (some k)) cs) (hob : H[ob]? = some (.cell true e (.arr m c xs))) (hol : off + len ≤ m)
    (hb : (len + ys.length) * de.bytes ≤ 2 ^ 40) (hn : len + ys.length ≤ 2 ^ 40) (hgrow : k < len + ys.length) :
    GrownX E ι e c z H (len + ys.length) ((xs.drop off).take len ++ ys) w (Builtin.append_ #[t, t] ty #[cs, cx]) := by
  obtain ⟨l, hl, hcx⟩ := appL_ok h hq r hx
  obtain ⟨b, zz, kk, hbk, rfl, hk, hkz, hkk⟩ := osl_of hs
  have := hkk k rfl; subst this
  obtain ⟨cells, fz, lo, rr, e1, e2, e3, e4, e5⟩ := (r.obj _ _ _ _ hob hbk).cell
  rw [Rep] at e4
  obtain ⟨hxs, hr⟩ := e4
  have hll := RepAll_news hl
  obtain ⟨m1, m2, em, em1, hm1, hm2⟩ := hr.split (RepD_len c) off (by omega)
  obtain ⟨k1, k2, ek, ek1, hs1, hs2⟩ := hm2.split (RepD_len c) len (by simp; omega)
  have hnl : ((xs.drop off).take len ++ ys).length = len + ys.length := by simp; omega
  obtain ⟨i, zv, hi, hsi, hby, hzv, hzs, hzr⟩ := zeros_cells he hz
  rcases hcx with ⟨rfl, hcx⟩ | ⟨b2, off2, k2', rfl, hcells⟩
  · simp at hgrow; omega
  · have hp0 : pathOff [] + off * c.size = off * c.size := by simp [pathOff]
    have hrun := run_append_grow (P := E.P) w t ty e i zv hu hi hzv ⟨b, off * c.size, none⟩ len kk k1 (by rw [ek1, hsi, hc]) (fun j u hu => by
        rw [addr_add, cell_of e1]
        have : off * c.size = m1.length := em1.symm
        rw [this]
        exact At.mid (l2 := k2 ++ rr) (by rw [e2, em, ek]; simp) j u hu)
      ⟨b2, off2, none⟩ ys.length k2' l (by rw [hsi, ← hc]; exact hll) hcells hgrow (by omega) (growslice_fits (by omega) (by rw [hby]; omega))
    obtain ⟨j, hj, h1, h2⟩ := fresh_exact (e := e) (cs := k1.toArray ++ l.toArray ++ Builtin.zeroCells zv.cells (grownCap w (len + ys.length) kk e - (len + ys.length))) (r.drew (w.drawn + 1)) hzr (hs1.app hl) hnl (grownCap_ge w (len + ys.length) kk e) (by simp)
    rw [hp0]
    exact ⟨_, _, _, j, hrun, Ext.add ι _ _, h1, h2⟩

theorem zeros_nil_exact {t tn ty e : TypeId} {kn kk : IntKind} {de : ATy} {c : TC} {z : c.den} {n : Nat} (hu : E.P.underlying t = some (.slice e)) (hun : E.P.underlying tn = some (.int kn)) (he : de.ok E.P e) (hs0 : de.size ≠ 0) (hz : toD c de.zero = some z) (r : HRel ι H w)
    (hpos : 0 < n) (hb : n * de.bytes ≤ 2 ^ 40) (hn : n ≤ 2 ^ 40) : GrownX E ι e c z H n (List.replicate n z) w (Builtin.append_ #[t, tn] ty #[.slice none 0 0, .int kk n]) := by
  obtain ⟨i, zv, hi, hsi, hby, hzv, hzs, hzr⟩ := zeros_cells he hz
  have hrun := Lib.run_append_nil_zeros (P := E.P) w t tn ty e i zv kk kn hu hun hi hzv n hpos (by rw [hsi]; omega) (by omega) (by rw [hby]; omega)
  have hzl : ∀ n, (Builtin.zeroCells zv.cells n).toList = (List.replicate n zv.cells.toList).flatten := fun n => by simpa [Builtin.zeroCells] using range_cells zv.cells n
  obtain ⟨j, hj, h1, h2⟩ := fresh_exact (e := e) (cs := Builtin.zeroCells zv.cells n ++ Builtin.zeroCells zv.cells (grownCap w n 0 e - n)) (r.drew (w.drawn + 1)) hzr (RepAll_replicate (hzr _) n) (by simp) (grownCap_ge w n 0 e) (by rw [Array.toList_append, hzl])
  exact ⟨_, _, _, j, hrun, Ext.add ι _ _, h1, h2⟩

theorem zeros_grow_exact {t tn ty e : TypeId} {kn kk : IntKind} {de : ATy} {c : TC} {z : c.den} {cs : Value} {ob off len m k n : Nat} {xs : List c.den} (hu : E.P.underlying t = some (.slice e)) (hun : E.P.underlying tn = some (.int kn)) (he : de.ok E.P e) (hc : c.size = de.size) (hs0 : de.size ≠ 0)
    (hz : toD c de.zero = some z) (r : HRel ι H w) (hs : RepV ι (.osl ob [] c.size off len (some k)) cs) (hob : H[ob]? = some (.cell true e (.arr m c xs))) (hol : off + len ≤ m)
    (hpos : 0 < n) (hb : (len + n) * de.bytes ≤ 2 ^ 40) (hn : len + n ≤ 2 ^ 40) (hgrow : k < len + n) :
    GrownX E ι e c z H (len + n) ((xs.drop off).take len ++ List.replicate n z) w (Builtin.append_ #[t, tn] ty #[cs, .int kk n]) := by
  obtain ⟨i, zv, hi, hsi, hby, hzv, hzs, hzr⟩ := zeros_cells he hz
  obtain ⟨b, zz, kk', hbk, rfl, hkl, hkz, hkk⟩ := osl_of hs
  have := hkk k rfl; subst this
  obtain ⟨cells, fz, lo, rr, e1, e2, e3, e4, e5⟩ := (r.obj _ _ _ _ hob hbk).cell
  rw [Rep] at e4
  obtain ⟨hxs, hr⟩ := e4
  obtain ⟨m1, m2, em, em1, hm1, hm2⟩ := hr.split (RepD_len c) off (by omega)
  obtain ⟨k1, k2, ek, ek1, hs1, hs2⟩ := hm2.split (RepD_len c) len (by simp; omega)
  have hnl : ((xs.drop off).take len ++ List.replicate n z).length = len + n := by simp; omega
  have hp0 : pathOff [] + off * c.size = off * c.size := by simp [pathOff]
  have hzl : ∀ n, (Builtin.zeroCells zv.cells n).toList = (List.replicate n zv.cells.toList).flatten := fun n => by simpa [Builtin.zeroCells] using range_cells zv.cells n
  have hold := run_firstCells_some (P := E.P) w.drew i.size len ⟨b, off * c.size, none⟩ len kk' k1 (by rw [ek1, hsi, hc]) (fun j u hu => by
      rw [show w.drew.cell? = w.cell? from rfl, addr_add, cell_of e1]
      have : off * c.size = m1.length := em1.symm
      rw [this]
      exact At.mid (l2 := k2 ++ rr) (by rw [e2, em, ek]; simp) j u hu)
  have hrun := Lib.run_append_grow_zeros (P := E.P) w t tn ty e i zv kk kn hu hun hi hzv (some ⟨b, off * c.size, none⟩) len kk' k1 hold n (by omega) (by rw [hsi]; omega) hgrow (by omega) (by rw [hby]; exact Nat.le_trans (Nat.mul_le_mul_right _ (Nat.le_add_left n len)) (Nat.le_trans hb (by decide))) (growslice_fits (by omega) (by rw [hby]; omega))
  obtain ⟨j, hj, h1, h2⟩ := fresh_exact (e := e) (cs := k1.toArray ++ Builtin.zeroCells zv.cells n ++ Builtin.zeroCells zv.cells (grownCap w (len + n) kk' e - (len + n))) (r.drew (w.drawn + 1)) hzr (hs1.app (RepAll_replicate (hzr _) n)) hnl (grownCap_ge w (len + n) kk' e) (by simp only [Array.toList_append, hzl])
  rw [hp0]
  exact ⟨_, _, _, j, hrun, Ext.add ι _ _, h1, h2⟩

/-- An append whose capacities are told is right. -/
theorem appX_ok (hV : E.Valid) {t1 t2 ty : TypeId} {s x : AV} {go : AV → Heap → Prop} {cs cx : Value} (h : appX E H t1 t2 s x go) (r : HRel ι H w) (hs : RepV ι s cs) (hx : RepV ι x cx) :
    ∃ v H' ι' w' u, go v H' ∧ (Builtin.append_ #[t1, t2] ty #[cs, cx]).run E.P w = .ok u w' ∧ Ext ι ι' ∧ HRel ι' H' w' ∧ RepV ι' v u := by
  unfold appX at h
  split at h
  case h_2 => cases h
  rename_i d d2 hd hd2
  split at h
  case h_2 => cases h
  rename_i e de he
  split at h
  case h_2 => cases h
  rename_i c hsl hc
  obtain ⟨hu, he1⟩ := sl_desc hV hd he hsl
  split at h
  case h_2 => cases h
  rename_i z hz
  split at h
  case isFalse => cases h
  rename_i hcond
  have fin : ∀ {n : Nat} {xs : List c.den} {m : Sem Value}, exactO e c z H n xs go → GrownX E ι e c z H n xs w m → ∃ v H' ι' w' u, go v H' ∧ m.run E.P w = .ok u w' ∧ Ext ι ι' ∧ HRel ι' H' w' ∧ RepV ι' v u := by
    rintro n xs m hgo ⟨ι', w', u, j, h1, h2, h3, h4⟩
    exact ⟨_, _, ι', w', u, hgo j, h1, h2, h3, h4⟩
  split at h
  · rename_i kn hdesc2
    have hu2 := (hV.ty _ _ hd2).1
    rw [hdesc2] at hu2
    split at h
    case h_2 => cases h
    rename_i kk n
    rw [hx.int]
    split at h
    · obtain ⟨⟨h0, h1, h2, _⟩, h⟩ := obl_ok h
      have := hs.raw; subst this
      obtain ⟨m, rfl⟩ : ∃ m : Nat, n = m := ⟨n.toNat, by omega⟩
      simp only [Int.toNat_natCast] at h1 h2 h
      exact fin h (zeros_nil_exact hu hu2 he1 hcond.2 hz r (by omega) h1 h2)
    · rename_i ob s0 off len k
      split at h
      case h_2 => cases h
      rename_i t m c' xs hob
      split at h
      case isFalse => cases h
      rename_i hcc; subst hcc
      split at h
      case isFalse => cases h
      rename_i hst
      obtain ⟨⟨h0, hk, hol, h1, h2, _⟩, h⟩ := obl_ok h
      obtain ⟨rfl, rfl⟩ := hst
      obtain ⟨mm, rfl⟩ : ∃ m : Nat, n = m := ⟨n.toNat, by omega⟩
      simp only [Int.toNat_natCast] at hk h1 h2 h
      exact fin h (zeros_grow_exact hu hu2 he1 hcond.1 hcond.2 hz r hs hob hol (by omega) h1 h2 hk)
    · cases h
  · split at h
    case isFalse => cases h
    rename_i ht; subst ht
    split at h
    case h_2 => cases h
    rename_i q ys happ
    split at h
    · obtain ⟨hq, h⟩ := obl_ok h
      have hus := hs.raw; subst hus
      by_cases hys : ys.length = 0
      · have hc0 : ieq ys.length 0 = true := by simp [ieq, hys]
        rw [hc0] at h
        obtain ⟨l, hl, hcx⟩ := appL_ok happ hq r hx
        refine ⟨_, H, ι, w, _, h, append_same hu he1 none 0 0 0 cx ?_ rfl (Nat.le_refl _), Ext.refl ι, r, hs⟩
        rcases hcx with ⟨_, h0 | ⟨a0, h0⟩⟩ | ⟨b, off, k, rfl, _⟩
        · exact .inl ⟨h0, rfl⟩
        · exact .inr ⟨a0, 0, h0⟩
        · exact .inr ⟨_, k, by rw [hys]⟩
      · have hc0 : ieq ys.length 0 = false := by
          have hne : ¬ ((ys.length : Int) = 0) := by omega
          simp only [ieq, beq_eq_false_iff_ne, ne_eq, hne, not_false_eq_true]
        rw [hc0] at h
        obtain ⟨⟨h1, h2, _⟩, h⟩ := obl_ok h
        exact fin h (nil_exact hu he1 hcond.1 hz happ hq r hx (by omega) h1 h2)
    · rename_i ob s0 off len k
      split at h
      case h_2 => cases h
      rename_i t m c' xs hob
      split at h
      case isFalse => cases h
      rename_i hcc; subst hcc
      split at h
      case isFalse => cases h
      rename_i hst
      obtain ⟨hq, h⟩ := obl_ok h
      obtain ⟨rfl, rfl⟩ := hst
      cases hb : ilt k ((len + ys.length : Nat) : Int) with
      | true =>
        rw [hb] at h
        obtain ⟨⟨h1, h2, h3, _⟩, h⟩ := obl_ok h
        have hlt : k < len + ys.length := by simp only [ilt, decide_eq_true_eq] at hb; omega
        exact fin h (grow_exact hu he1 hcond.1 hz happ hq r hx hs hob h1 h2 h3 hlt)
      | false =>
        rw [hb] at h
        obtain ⟨⟨h1, _⟩, h⟩ := obl_ok h
        have hge : len + ys.length ≤ k := by simp only [ilt, decide_eq_false_iff_not] at hb; omega
        obtain ⟨w', u, k1, k2, k3⟩ := append_cap_room_ok (ty := ty) hu he1 hcond.1 happ hq r hx hs hob h1 hge
        exact ⟨_, _, ι, w', u, h, k1, Ext.refl ι, k2, k3⟩
    · cases h
end Go.Eng
end
section
/- Rows of one's own that may be nil: appends to them; seen as plain data from now on. -/
namespace Go.Eng
open Go.RowKit
variable {E : Env} {ι : Inst} {T : List AV} {H : Heap} {a : Act} {w : World}

/-- An object told in another way. -/
theorem HRel.turn (h : HRel ι H w) {i : Nat} {x y : AObj} {b z : Nat} (hi : H[i]? = some x) (hb : ι.blk[i]? = some (b, z)) (ho : y.owned = true → x.owned = true) (hy : ObjRel ι w b z y) : HRel ι (H.set i y) w := by
  have old : ∀ {j : Nat} {u : AObj}, (H.set i y)[j]? = some u → (j = i ∧ u = y) ∨ H[j]? = some u := by
    intro j u e
    rw [List.getElem?_set] at e
    split at e
    · rename_i hij; subst hij
      split at e
      · left; exact ⟨rfl, by simpa using e.symm⟩
      · cases e
    · exact .inr e
  have key : ∀ {j : Nat} {u : AObj}, (H.set i y)[j]? = some u → u.owned = true → ∃ u', H[j]? = some u' ∧ u'.owned = true := by
    intro j u e o
    rcases old e with ⟨rfl, rfl⟩ | e
    · exact ⟨_, hi, ho o⟩
    · exact ⟨_, e, o⟩
  refine ⟨by simp [h.len], h.prot, ?_, ?_, ?_, h.base⟩
  · intro j u b' z' e1 e2
    rcases old e1 with ⟨rfl, rfl⟩ | e
    · rw [hb] at e2; cases e2; exact hy
    · exact h.obj _ _ _ _ e e2
  · intro j u b' z' e1 o e2
    obtain ⟨u', k1, k2⟩ := key e1 o
    exact h.own _ _ _ _ k1 k2 e2
  · intro j k u v b' z1 z2 e1 o1 e2 o2 b1 b2
    obtain ⟨u', k1, k2⟩ := key e1 o1
    obtain ⟨v', k3, k4⟩ := key e2 o2
    exact h.sep _ _ _ _ _ _ _ k1 k2 k3 k4 b1 b2

/-- An object without memory. -/
theorem HRel.ghost (h : HRel ι H w) (t : TypeId) (c : TC) (b z : Nat) : HRel (ι.add b z) (H ++ [.row t c []]) w := by
  have hE := Ext.add ι b z
  have old : ∀ {i : Nat} {b' z' : Nat} {y : AObj}, (H ++ [AObj.row t c []])[i]? = some y → (ι.add b z).blk[i]? = some (b', z') →
      (H[i]? = some y ∧ ι.blk[i]? = some (b', z')) ∨ y = .row t c [] := by
    intro i b' z' y e1 e2
    rcases Nat.lt_or_ge i H.length with hi | hi
    · left
      rw [List.getElem?_append_left hi] at e1
      simp only [Inst.add] at e2
      rw [List.getElem?_append_left (h.len ▸ hi)] at e2
      exact ⟨e1, e2⟩
    · right
      have : i < (H ++ [AObj.row t c []]).length := (List.getElem?_eq_some_iff.1 e1).1
      simp at this
      have hi' : i = H.length := by omega
      subst hi'
      simp at e1
      exact e1.symm
  refine ⟨by simp [Inst.add, h.len], h.prot, ?_, ?_, ?_, h.base⟩
  · intro i y b' z' e1 e2
    rcases old e1 e2 with ⟨k1, k2⟩ | rfl
    · exact ObjRel_mono hE (fun _ => rfl) h.prot (h.obj _ _ _ _ k1 k2)
    · exact .inl rfl
  · intro i y b' z' e1 ho e2
    rcases old e1 e2 with ⟨k1, k2⟩ | rfl
    · exact h.own _ _ _ _ k1 ho k2
    · cases ho
  · intro i j y y' b' z1 z2 e1 o1 e2 o2 b1 b2
    rcases old e1 b1 with ⟨k1, k2⟩ | rfl
    · rcases old e2 b2 with ⟨k3, k4⟩ | rfl
      · exact h.sep _ _ _ _ _ _ _ k1 o1 k3 o2 k2 k4
      · cases o2
    · cases o1

theorem HRel.toRow (h : HRel ι H w) {i n : Nat} {t : TypeId} {c : TC} {xs : List c.den} (hi : H[i]? = some (.cell true t (.arr n c xs))) : HRel ι (H.set i (.row t c xs)) w := by
  obtain ⟨b, z, hb⟩ := h.blk_some hi
  obtain ⟨cells, fz, l, r, e1, e2, e3, e4, e5⟩ := h.obj _ _ _ _ hi hb
  have e5 : fz = (0, 0) := e5
  subst e5
  rw [Rep] at e4
  exact h.turn hi hb (fun _ => rfl) (.inr ⟨cells, l, r, e1, e2, e3, e4.2⟩)

theorem HRel.toCell (h : HRel ι H w) {i : Nat} {t : TypeId} {c : TC} {xs : List c.den} (hi : H[i]? = some (.row t c xs)) (hx : xs ≠ []) : HRel ι (H.set i (.cell true t (.arr xs.length c xs))) w := by
  obtain ⟨b, z, hb⟩ := h.blk_some hi
  rcases h.obj _ _ _ _ hi hb with h0 | ⟨cells, l, r, e1, e2, e3, e4⟩
  · exact absurd h0 hx
  · refine h.turn hi hb (fun _ => ?_) ⟨cells, (0, 0), l, r, e1, e2, e3, ?_, rfl⟩
    · cases xs with
      | nil => exact absurd rfl hx
      | cons => rfl
    · rw [Rep]; exact ⟨rfl, e4⟩

theorem appL_set {c : TC} {ob : Nat} {t : TypeId} {c' : TC} {xs : List c'.den} {y : AObj} (ho : H[ob]? = some (.row t c' xs)) {x : AV} {r : List Prop × List c.den} (h : appL c H x = some r) : appL c (H.set ob y) x = some r := by
  unfold appL at h ⊢
  split at h
  · exact h
  · exact h
  · rename_i o p s off len cap
    by_cases e : ob = o
    · subst e
      rw [ho] at h
      cases h
    · rw [List.getElem?_set_ne e]
      exact h
  · cases h

theorem row_of_osl {o s n z0 : Nat} {u : Value} (hn : 0 < n) (k : RepV ι (.osl o [] s 0 n none) u) : RepV ι (.row o s n) u := by
  obtain ⟨b, z, kk, e, rfl, k1, k2, _⟩ := osl_of k
  refine RepV_of_rep rfl ?_
  rw [Rep]
  exact ⟨b, z, _, e, rfl, .inr ⟨hn, kk, by simp [pathOff], k1, by simpa [pathOff] using k2⟩⟩

theorem append_nil_row {t ty e : TypeId} {de : ATy} {c : TC} {x : AV} {q : List Prop} {ys : List c.den} {cx : Value} (hu : E.P.underlying t = some (.slice e)) (he : de.ok E.P e) (hc : c.size = de.size) (h : appL c H x = some (q, ys)) (hq : holds q)
    (r : HRel ι H w) (hx : RepV ι x cx) (hb : ys.length * de.bytes ≤ 2 ^ 40) (hn : ys.length ≤ 2 ^ 40) :
    ∃ ι' w' u, (Builtin.append_ #[t, t] ty #[.slice none 0 0, cx]).run E.P w = .ok u w' ∧ Ext ι ι' ∧ HRel ι' (H ++ [.row e c ys]) w' ∧ RepV ι' (.row H.length c.size ys.length) u := by
  cases ys with
  | nil =>
    obtain ⟨l, hl, hcx⟩ := appL_ok h hq r hx
    refine ⟨ι.add 0 0, w, .slice none 0 0, ?_, Ext.add ι 0 0, r.ghost e c 0 0, RepV_of_rep rfl ?_⟩
    · refine append_same hu he none 0 0 0 cx ?_ rfl (Nat.le_refl _)
      rcases hcx with ⟨_, h0 | ⟨a0, h0⟩⟩ | ⟨b, off, k, rfl, _⟩
      · exact .inl ⟨h0, rfl⟩
      · exact .inr ⟨a0, 0, h0⟩
      · exact .inr ⟨_, k, rfl⟩
    · rw [Rep]
      exact ⟨0, 0, _, by rw [r.len]; exact ι.add_at 0 0, rfl, .inl ⟨rfl, rfl⟩⟩
  | cons y ys =>
    obtain ⟨ι', w', u, h1, h2, h3, h4⟩ := append_nil_ok (ty := ty) hu he hc h hq r hx (by simp) hb hn
    have := h3.toRow (i := H.length) (t := e) (c := c) (n := (y :: ys).length) (xs := y :: ys) (by simp)
    refine ⟨ι', w', u, h1, h2, ?_, row_of_osl (z0 := 0) (by simp) h4⟩
    simpa using this

theorem appR_ok (hV : E.Valid) {t1 ty : TypeId} {s x v : AV} {q : List Prop} {H' : Heap} {cs cx : Value} (h : appR E H t1 s x = some (q, v, H')) (hq : holds q) (r : HRel ι H w) (hs : RepV ι s cs) (hx : RepV ι x cx) :
    ∃ ι' w' u, (Builtin.append_ #[t1, t1] ty #[cs, cx]).run E.P w = .ok u w' ∧ Ext ι ι' ∧ HRel ι' H' w' ∧ RepV ι' v u := by
  unfold appR at h
  split at h
  case h_2 => cases h
  rename_i d hd
  split at h
  case h_2 => cases h
  rename_i e de he
  split at h
  case h_2 => cases h
  rename_i c hsl hc
  obtain ⟨hu, he1⟩ := sl_desc hV hd he hsl
  split at h
  case isFalse => cases h
  rename_i hcond
  split at h
  case h_2 => cases h
  rename_i q1 ys happ
  split at h
  · simp only [Option.some.injEq, Prod.mk.injEq] at h; obtain ⟨rfl, rfl, rfl⟩ := h
    rw [holds_app] at hq
    obtain ⟨hq1, h1, h2, _⟩ := hq
    have := hs.raw; subst this
    exact append_nil_row hu he1 hcond.1 happ hq1 r hx h1 h2
  · rename_i ob s0 len
    split at h
    case h_2 => cases h
    rename_i t c' xs hob
    split at h
    case isFalse => cases h
    rename_i hcc; subst hcc
    split at h
    case isFalse => cases h
    rename_i hst
    simp only [Option.some.injEq, Prod.mk.injEq] at h; obtain ⟨rfl, rfl, rfl⟩ := h
    rw [holds_app] at hq
    obtain ⟨hq1, hm, h1, h2, _⟩ := hq
    obtain ⟨rfl, rfl⟩ := hst
    have hm : len = xs.length := hm
    subst hm
    have hlt := (List.getElem?_eq_some_iff.1 hob).1
    have hs' := hs.one rfl rfl
    rw [Rep] at hs'
    obtain ⟨b, z, v0, hbk, hv0, hv⟩ := hs'
    simp only [List.cons.injEq, and_true] at hv0
    subst hv0
    cases xs with
    | nil =>
      rcases hv with ⟨_, rfl⟩ | ⟨h0, _⟩
      · obtain ⟨ι', w', u, k1, k2, k3, k4⟩ := append_nil_row (ty := ty) hu he1 hcond.1 happ hq1 r hx (by simpa using h1) (by simpa using h2)
        refine ⟨ι', w', u, k1, k2, ?_, by simpa using k4⟩
        have := k3.kill (i := ob)
        rw [List.set_append_left _ _ hlt] at this
        simpa using this
      · simp at h0
    | cons x0 xs =>
      rcases hv with ⟨h0, _⟩ | ⟨hpos, k, rfl, hk, hkz⟩
      · simp at h0
      · have r1 := r.toCell hob (by simp)
        have hob1 : (H.set ob (.cell true t (.arr (x0 :: xs).length c' (x0 :: xs))))[ob]? = some (.cell true t (.arr (x0 :: xs).length c' (x0 :: xs))) := by simp [hlt]
        have hsl' : RepV ι (.osl ob [] c'.size 0 (x0 :: xs).length none) (.slice (some ⟨b, 0, none⟩) (x0 :: xs).length k) := by
          refine RepV_of_rep rfl ?_
          rw [Rep]
          exact ⟨b, z, k, hbk, by simp [pathOff], hk, by simpa [pathOff] using hkz, by simp⟩
        obtain ⟨ι', w', u, k1, k2, k3, k4⟩ := append_own_ok (ty := ty) hu he1 hcond.1 (appL_set hob happ) hq1 r1 hx hsl' hob1 h1 h2
        refine ⟨ι', w', u, k1, k2, ?_, ?_⟩
        · rw [List.set_set] at k3
          have := k3.toRow (i := H.length) (t := t) (c := c') (n := (x0 :: xs).length + ys.length) (xs := (x0 :: xs) ++ ys) (by rw [List.getElem?_append_right (by simp)]; simp)
          have e : (H.set ob .dead ++ [AObj.cell true t (.arr ((x0 :: xs).length + ys.length) c' ((x0 :: xs) ++ ys))]).set H.length (.row t c' ((x0 :: xs) ++ ys)) = H.set ob .dead ++ [.row t c' ((x0 :: xs) ++ ys)] := by
            rw [List.set_append_right _ _ (by simp)]; simp
          rw [e] at this
          exact this
        · rw [List.length_set] at k4
          exact row_of_osl (z0 := 0) (by simp; omega) k4
  · cases h

/-! ### Rows as plain data from now on -/
mutual
theorem sealV_keep {i : Nat} {t : TypeId} {own : Bool} {x : AV} : ∀ {v u : AV} {H H' : Heap} {q : List Prop}, sealV H v = some (q, u, H') → H[i]? = some (.cell own t x) → H'[i]? = some (.cell own t x)
  | .row o s n, u, H, H', q, h, hi => by
    simp only [sealV] at h
    split at h
    · rename_i t' c xs ho
      split at h
      · simp only [Option.some.injEq, Prod.mk.injEq] at h; obtain ⟨_, _, rfl⟩ := h
        have : o ≠ i := by intro e; subst e; rw [ho] at hi; cases hi
        rw [List.getElem?_set_ne this]; exact hi
      · cases h
    · cases h
  | .agg ss vs, u, H, H', q, h, hi => by
    simp only [sealV] at h
    split at h
    · rename_i q' us H1 h1
      simp only [Option.some.injEq, Prod.mk.injEq] at h; obtain ⟨_, _, rfl⟩ := h
      exact sealL_keep h1 hi
    · cases h
  | .int _ _, _, _, _, _, h, hi => by simp only [sealV, Option.some.injEq, Prod.mk.injEq] at h; rw [← h.2.2]; exact hi
  | .bool _, _, _, _, _, h, hi => by simp only [sealV, Option.some.injEq, Prod.mk.injEq] at h; rw [← h.2.2]; exact hi
  | .str _, _, _, _, _, h, hi => by simp only [sealV, Option.some.injEq, Prod.mk.injEq] at h; rw [← h.2.2]; exact hi
  | .raw _, _, _, _, _, h, hi => by simp only [sealV, Option.some.injEq, Prod.mk.injEq] at h; rw [← h.2.2]; exact hi
  | .arr _ _ _, _, _, _, _, h, hi => by simp only [sealV, Option.some.injEq, Prod.mk.injEq] at h; rw [← h.2.2]; exact hi
  | .tup _, _, _, _, _, h, hi => by simp only [sealV, Option.some.injEq, Prod.mk.injEq] at h; rw [← h.2.2]; exact hi
  | .ptr _ _, _, _, _, _, h, hi => by simp only [sealV, Option.some.injEq, Prod.mk.injEq] at h; rw [← h.2.2]; exact hi
  | .ref _, _, _, _, _, h, hi => by simp only [sealV, Option.some.injEq, Prod.mk.injEq] at h; rw [← h.2.2]; exact hi
  | .fsl _ _, _, _, _, _, h, hi => by simp only [sealV, Option.some.injEq, Prod.mk.injEq] at h; rw [← h.2.2]; exact hi
  | .osl _ _ _ _ _ _, _, _, _, _, h, hi => by simp only [sealV, Option.some.injEq, Prod.mk.injEq] at h; rw [← h.2.2]; exact hi
  | .fn _ _, _, _, _, _, h, hi => by simp only [sealV, Option.some.injEq, Prod.mk.injEq] at h; rw [← h.2.2]; exact hi
  | .bnd _ _, _, _, _, _, h, hi => by simp only [sealV, Option.some.injEq, Prod.mk.injEq] at h; rw [← h.2.2]; exact hi
  | .yld _, _, _, _, _, h, hi => by simp only [sealV, Option.some.injEq, Prod.mk.injEq] at h; rw [← h.2.2]; exact hi
  | .mp _, _, _, _, _, h, hi => by simp only [sealV, Option.some.injEq, Prod.mk.injEq] at h; rw [← h.2.2]; exact hi
  | .any, _, _, _, _, h, hi => by simp only [sealV, Option.some.injEq, Prod.mk.injEq] at h; rw [← h.2.2]; exact hi
  | .junk, _, _, _, _, h, hi => by simp only [sealV, Option.some.injEq, Prod.mk.injEq] at h; rw [← h.2.2]; exact hi
theorem sealL_keep {i : Nat} {t : TypeId} {own : Bool} {x : AV} : ∀ {vs us : List AV} {H H' : Heap} {q : List Prop}, sealL H vs = some (q, us, H') → H[i]? = some (.cell own t x) → H'[i]? = some (.cell own t x)
  | [], _, _, _, _, h, hi => by simp only [sealL, Option.some.injEq, Prod.mk.injEq] at h; rw [← h.2.2]; exact hi
  | v :: vs, us, H, H', q, h, hi => by
    simp only [sealL] at h
    split at h
    · rename_i q1 u1 H1 h1
      split at h
      · rename_i q2 us2 H2 h2
        simp only [Option.some.injEq, Prod.mk.injEq] at h; obtain ⟨_, _, rfl⟩ := h
        exact sealL_keep h2 (sealV_keep h1 hi)
      · cases h
    · cases h
end

theorem seal_row (r : HRel ι H w) {o s n : Nat} {t : TypeId} {c : TC} {xs : List c.den} {cs : List Value} (ho : H[o]? = some (.row t c xs)) (hs : s = c.size) (hn : n = xs.length) (k : Rep ι (.row o s n) cs) :
    ∃ ι', Ext ι ι' ∧ HRel ι' (H.set o .dead) w ∧ Rep ι' (.fsl c xs) cs := by
  subst hs hn
  rw [Rep] at k
  obtain ⟨b, z, v0, hbk, rfl, hv⟩ := k
  cases xs with
  | nil =>
    rcases hv with ⟨_, rfl⟩ | ⟨h0, _⟩
    · exact ⟨ι, Ext.refl ι, r.kill, by rw [Rep]; exact ⟨_, rfl, .inl ⟨rfl, .inl rfl⟩⟩⟩
    · simp at h0
  | cons x0 xs =>
    rcases hv with ⟨h0, _⟩ | ⟨hpos, k, rfl, hk, hkz⟩
    · simp at h0
    · have hlt := (List.getElem?_eq_some_iff.1 ho).1
      have r1 := r.toCell ho (by simp)
      have ho1 : (H.set o (.cell true t (.arr (x0 :: xs).length c (x0 :: xs))))[o]? = some (.cell true t (.arr (x0 :: xs).length c (x0 :: xs))) := by simp [hlt]
      obtain ⟨cells, fz, l, rr, e1, e2, e3, e4, e5⟩ := (r1.obj _ _ _ _ ho1 hbk).cell
      obtain ⟨hE, hR⟩ := r1.freeze ho1 hbk
      have hK := hR.kill (i := o)
      rw [List.set_set, List.set_set] at hK
      refine ⟨_, hE, hK, ?_⟩
      rw [Rep] at e4
      obtain ⟨_, hrep⟩ := e4
      rw [Rep]
      refine ⟨_, rfl, .inr ⟨b, 0, k, cells, t, fz, l, rfl, hk, ?_, hrep.mono fun x l => RepD_mono' hE.sub c x l, ?_⟩⟩
      · simp only [Inst.freeze, if_true]; exact e1
      · have := At.mid (l1 := []) (m := l) (l2 := rr) (cells := cells) (by simpa using e2)
        simpa using this

mutual
theorem sealV_ok : ∀ {v u : AV} {H H' : Heap} {q : List Prop} {ι : Inst} {cs : List Value}, sealV H v = some (q, u, H') → holds q → HRel ι H w → Rep ι v cs → ∃ ι', Ext ι ι' ∧ HRel ι' H' w ∧ Rep ι' u cs
  | .row o s n, u, H, H', q, ι, cs, h, hq, r, k => by
    simp only [sealV] at h
    split at h
    · rename_i t' c xs ho
      split at h
      · rename_i hs
        simp only [Option.some.injEq, Prod.mk.injEq] at h; obtain ⟨rfl, rfl, rfl⟩ := h
        exact seal_row r ho hs hq.1 k
      · cases h
    · cases h
  | .agg ss vs, u, H, H', q, ι, cs, h, hq, r, k => by
    simp only [sealV] at h
    split at h
    · rename_i q' us H1 h1
      simp only [Option.some.injEq, Prod.mk.injEq] at h; obtain ⟨rfl, rfl, rfl⟩ := h
      rw [Rep] at k
      obtain ⟨ι', hE, hR, k'⟩ := sealL_ok h1 hq r k
      exact ⟨ι', hE, hR, by rw [Rep]; exact k'⟩
    · cases h
  | .int _ _, _, _, _, _, ι, _, h, _, r, k => by simp only [sealV, Option.some.injEq, Prod.mk.injEq] at h; obtain ⟨_, rfl, rfl⟩ := h; exact ⟨ι, Ext.refl ι, r, k⟩
  | .bool _, _, _, _, _, ι, _, h, _, r, k => by simp only [sealV, Option.some.injEq, Prod.mk.injEq] at h; obtain ⟨_, rfl, rfl⟩ := h; exact ⟨ι, Ext.refl ι, r, k⟩
  | .str _, _, _, _, _, ι, _, h, _, r, k => by simp only [sealV, Option.some.injEq, Prod.mk.injEq] at h; obtain ⟨_, rfl, rfl⟩ := h; exact ⟨ι, Ext.refl ι, r, k⟩
  | .raw _, _, _, _, _, ι, _, h, _, r, k => by simp only [sealV, Option.some.injEq, Prod.mk.injEq] at h; obtain ⟨_, rfl, rfl⟩ := h; exact ⟨ι, Ext.refl ι, r, k⟩
  | .arr _ _ _, _, _, _, _, ι, _, h, _, r, k => by simp only [sealV, Option.some.injEq, Prod.mk.injEq] at h; obtain ⟨_, rfl, rfl⟩ := h; exact ⟨ι, Ext.refl ι, r, k⟩
  | .tup _, _, _, _, _, ι, _, h, _, r, k => by simp only [sealV, Option.some.injEq, Prod.mk.injEq] at h; obtain ⟨_, rfl, rfl⟩ := h; exact ⟨ι, Ext.refl ι, r, k⟩
  | .ptr _ _, _, _, _, _, ι, _, h, _, r, k => by simp only [sealV, Option.some.injEq, Prod.mk.injEq] at h; obtain ⟨_, rfl, rfl⟩ := h; exact ⟨ι, Ext.refl ι, r, k⟩
  | .ref _, _, _, _, _, ι, _, h, _, r, k => by simp only [sealV, Option.some.injEq, Prod.mk.injEq] at h; obtain ⟨_, rfl, rfl⟩ := h; exact ⟨ι, Ext.refl ι, r, k⟩
  | .fsl _ _, _, _, _, _, ι, _, h, _, r, k => by simp only [sealV, Option.some.injEq, Prod.mk.injEq] at h; obtain ⟨_, rfl, rfl⟩ := h; exact ⟨ι, Ext.refl ι, r, k⟩
  | .osl _ _ _ _ _ _, _, _, _, _, ι, _, h, _, r, k => by simp only [sealV, Option.some.injEq, Prod.mk.injEq] at h; obtain ⟨_, rfl, rfl⟩ := h; exact ⟨ι, Ext.refl ι, r, k⟩
  | .fn _ _, _, _, _, _, ι, _, h, _, r, k => by simp only [sealV, Option.some.injEq, Prod.mk.injEq] at h; obtain ⟨_, rfl, rfl⟩ := h; exact ⟨ι, Ext.refl ι, r, k⟩
  | .bnd _ _, _, _, _, _, ι, _, h, _, r, k => by simp only [sealV, Option.some.injEq, Prod.mk.injEq] at h; obtain ⟨_, rfl, rfl⟩ := h; exact ⟨ι, Ext.refl ι, r, k⟩
  | .yld _, _, _, _, _, ι, _, h, _, r, k => by simp only [sealV, Option.some.injEq, Prod.mk.injEq] at h; obtain ⟨_, rfl, rfl⟩ := h; exact ⟨ι, Ext.refl ι, r, k⟩
  | .mp _, _, _, _, _, ι, _, h, _, r, k => by simp only [sealV, Option.some.injEq, Prod.mk.injEq] at h; obtain ⟨_, rfl, rfl⟩ := h; exact ⟨ι, Ext.refl ι, r, k⟩
  | .any, _, _, _, _, ι, _, h, _, r, k => by simp only [sealV, Option.some.injEq, Prod.mk.injEq] at h; obtain ⟨_, rfl, rfl⟩ := h; exact ⟨ι, Ext.refl ι, r, k⟩
  | .junk, _, _, _, _, ι, _, h, _, r, k => by simp only [sealV, Option.some.injEq, Prod.mk.injEq] at h; obtain ⟨_, rfl, rfl⟩ := h; exact ⟨ι, Ext.refl ι, r, k⟩
theorem sealL_ok : ∀ {vs us : List AV} {H H' : Heap} {q : List Prop} {ι : Inst} {ss : List Nat} {cs : List Value}, sealL H vs = some (q, us, H') → holds q → HRel ι H w → RepL ι ss vs cs → ∃ ι', Ext ι ι' ∧ HRel ι' H' w ∧ RepL ι' ss us cs
  | [], _, _, _, _, ι, _, _, h, _, r, k => by simp only [sealL, Option.some.injEq, Prod.mk.injEq] at h; obtain ⟨_, rfl, rfl⟩ := h; exact ⟨ι, Ext.refl ι, r, k⟩
  | v :: vs, us, H, H', q, ι, ss, cs, h, hq, r, k => by
    simp only [sealL] at h
    split at h
    · rename_i q1 u1 H1 h1
      split at h
      · rename_i q2 us2 H2 h2
        simp only [Option.some.injEq, Prod.mk.injEq] at h; obtain ⟨rfl, rfl, rfl⟩ := h
        rw [holds_app] at hq
        rw [RepL] at k
        obtain ⟨s, ss', l, m, e1, e2, e3, k1, k2⟩ := k
        obtain ⟨ι1, hE1, r1, k1'⟩ := sealV_ok h1 hq.1 r k1
        obtain ⟨ι2, hE2, r2, k2'⟩ := sealL_ok h2 hq.2 r1 (RepL_mono' hE1.sub _ _ _ k2)
        refine ⟨ι2, hE1.trans hE2, r2, ?_⟩
        rw [RepL]
        exact ⟨s, ss', l, m, e1, e2, e3, Rep_mono' hE2.sub _ _ k1', k2'⟩
      · cases h
    · cases h
end

theorem frzA_ok {f : FuncId} {id : Nat} {q : List Prop} {H' : Heap} (h : frzA E f id T H = some (q, H')) (hq : holds q) (r : HRel ι H w) : ∃ ι', Ext ι ι' ∧ HRel ι' H' w := by
  unfold frzA at h
  split at h
  · simp only [Option.some.injEq, Prod.mk.injEq] at h; obtain ⟨_, rfl⟩ := h
    exact ⟨ι, Ext.refl ι, r⟩
  · split at h
    · rename_i ob p ht
      split at h
      · rename_i ty v ho
        split at h
        · rename_i q' u H1 hs
          split at h
          · rename_i hsz
            simp only [Option.some.injEq, Prod.mk.injEq] at h; obtain ⟨rfl, rfl⟩ := h
            obtain ⟨b, z, hb⟩ := r.blk_some ho
            obtain ⟨cells, fz, l, rr, e1, e2, e3, e4, e5⟩ := r.obj _ _ _ _ ho hb
            obtain ⟨ι', hE, r', k⟩ := sealV_ok hs hq r e4
            have ho' := sealV_keep hs ho
            exact ⟨ι', hE, r'.turn ho' (hE.blk _ _ hb) (fun _ => rfl) ⟨cells, fz, l, rr, e1, e2, e3, k, e5⟩⟩
          · cases h
        · cases h
      · cases h
    · cases h
end Go.Eng
end
section
/- One step of the evaluator is right: operations and calls. -/
namespace Go.Eng
open Go.RowKit
variable {E : Env} {ι : Inst} {T : List AV} {H : Heap} {a : Act} {w : World}

theorem entT_rel {fn : Func} {vs : List AV} {args : List Value} (h : All2 (RepV ι) vs args) : All2 (RepV ι) (entT fn vs) (args.toArray ++ Array.replicate (fn.ntmps - args.toArray.size) undef).toList := by
  simp only [entT, undefs, Array.toList_append, Array.toList_replicate, List.size_toArray, h.len]
  refine h.app ?_
  generalize fn.ntmps - args.length = m
  induction m with
  | zero => exact .nil
  | succ m ih => exact .cons RepV_undef ih

theorem isRet_cases {e : Exit} {j : Option Code} (h : jumpOf e = some j) (hr : isRet j = true) : e = .normal ∨ e = .ret := by
  cases e <;> simp [jumpOf] at h
  · exact .inl rfl
  · subst h; simp [isRet] at hr
  · exact .inr rfl

/-- An activation of its own: what its body comes to is what its frame asks. -/
theorem body_ok (hV : E.Valid) {f : FuncId} {fn : Func} {c : Code} {vs : List AV} {args : List Value} {p : Post} {kind : FK} {n : Nat} {R : Ending → World → Prop} {β : Nat} (hβ : β = H.length) (hf : E.fns f = some fn) (hb : fn.body = some c)
    (hkind : kind = .top ∨ (∃ d, kind = .call d) ∨ ∃ l, kind = .iter l) (hW : FrameW E { id := f, kind, T := entT fn vs, items := [.code c], D := [], base := β } p H) (r : HRel ι H w) (hg : GlobRep E ι) (ha : All2 (RepV ι) vs args)
    (hp : ∀ e T' D' H' , p e T' D' H' → (e = .normal ∨ e = .ret) ∧ ∃ fn' H'' q v, E.fns f = some fn' ∧ clearDs H' D' = some H'' ∧ resF E H'' T' fn' = some (q, v) ∧ holds q ∧
      ∀ ι' u w', Ext ι ι' → HRel ι' H'' w' → RepV ι' v u → R (.returned u) w') :
    CallsIn Fence.wide n E.P f args.toArray w R := by
  refine callsIn_of_wp_marks (hV.fns _ _ hf).1 hb trivial ?_
  have hfence : fenceOf ι kind = Fence.wide := by rcases hkind with rfl | ⟨d, rfl⟩ | ⟨l, rfl⟩ <;> rfl
  have hk : KOk ι kind := by rcases hkind with rfl | ⟨d, rfl⟩ | ⟨l, rfl⟩ <;> trivial
  have h := hW n ι { tmps := args.toArray ++ Array.replicate (fn.ntmps - args.toArray.size) undef, defers := [] } w ⟨r, entT_rel ha, hg⟩ .nil hk
  rw [hfence] at h
  refine wpIn_mono h ?_
  rintro e a1 w1 ⟨ι', T', D', H', hEB, r', hD', hpost⟩
  have hE := hEB.full (hβ.trans r.len)
  obtain ⟨he, fn', H'', q, v, hf', hc, hr, hq, hR⟩ := hp e T' D' H' hpost
  rw [hf] at hf'; cases hf'
  have hl := leaves_ok hV (n := n) (F := Fence.wide) (fn := fn) (R := R) hc hr hq r'.heap r'.tmps r'.glob hD' (fun u w' hH hu => hR ι' u w' hE hH hu)
  rcases he with rfl | rfl <;> exact hl

theorem evs_fn {f : Operand} {args : List Operand} {g : FuncId} {caps vs : List AV} (r : ARel E ι T H a w) (hf : ev E T f = some (.fn g caps)) (ha : evs E T args = some vs) :
    ∃ l : List Value, a.eval f = .func (.func g) #[] l.toArray ∧ All2 (RepV ι) (vs ++ caps) (args.map a.eval ++ l) := by
  obtain ⟨l, e, hl⟩ := fn_inv (ev_ok hf r)
  exact ⟨l, e, (evs_ok ha r).app hl⟩

theorem call_run {o : Oper} {f : Operand} {args : Array Operand} {ts : Array TypeId} {g : FuncId} {l : List Value} (hop : o.op = .call { callee := .value f, args, argTypes := ts }) (hf : a.eval f = .func (.func g) #[] l.toArray) :
    (execOp a.eval o).run E.P w = (callFunc g (args.toList.map a.eval ++ l).toArray).run E.P w := by
  have hargs : args.map a.eval = (args.toList.map a.eval).toArray := Array.ext' (by simp)
  simp only [execOp, hop, resolve, hf, Deferred.ofValue, Sem.run_bind, Sem.run_pure, Result.andThen, invoke, hargs]
  simp

theorem bnd_run {o : Oper} {f : Operand} {args : Array Operand} {ts : Array TypeId} {g : FuncId} {l : List Value} (hop : o.op = .call { callee := .value f, args, argTypes := ts }) (hf : a.eval f = .func (.func g) l.toArray #[]) :
    (execOp a.eval o).run E.P w = (callFunc g (l ++ args.toList.map a.eval).toArray).run E.P w := by
  have hargs : args.map a.eval = (args.toList.map a.eval).toArray := Array.ext' (by simp)
  simp only [execOp, hop, resolve, hf, Deferred.ofValue, Sem.run_bind, Sem.run_pure, Result.andThen, invoke, hargs]
  simp

theorem callFunc_enter (hV : E.Valid) {f : FuncId} {fn : Func} {c : Code} (hf : E.fns f = some fn) (hb : fn.body = some c) (args : Array Value) : (callFunc f args).run E.P w = .ok (.enter f args) w := by
  obtain ⟨h1, h2⟩ := hV.fns _ _ hf
  have h3 : ¬ fn.name = "runtime.NumGoroutine" := by simpa using h2
  simp [callFunc, h1, h3, hb]

theorem upon_callOk {o : Oper} {F : Fence} {n : Nat} {f : FuncId} {args : Array Value} {R : Value → World → Prop} {next : Act → World → Prop} {Q' : Exit → Act → World → Prop} {k : FK} (hF : F = fenceOf ι k)
    (h : CallOk E.P f args w R) (hrun : (o.semAt F.round a.eval).run E.P w = (callFunc f args).run E.P w) (hR : ∀ c w', R c w' → next (a.put o.dst c) w') : o.wpIn F n E.P a w next Q' := by
  subst hF
  refine ⟨fun g _ => fence_fn k g, ?_⟩
  rw [hrun]
  rcases h with ⟨v, h1, h2⟩ | ⟨h1, h2⟩
  · rw [h1]; exact hR _ _ h2
  · rw [h1]
    refine ⟨by rw [fence_depth]; simp, callsIn_fence (callsIn_wide.2 (h2.mono ?_))⟩
    rintro e w' ⟨v, rfl, hv⟩
    exact hR _ _ hv

theorem semAt_call {o : Oper} {c : Call} {ro : Option Nat} (hop : o.op = .call c) : o.semAt ro a.eval = execOp a.eval o := Oper.semAt_eq _ _ _ (by simp [hop])

theorem aop_noDefer {o : Oper} {x : List Prop × AV × Heap} (h : aop E T H o = some x) : ∀ c, o.op ≠ .defer c := by
  intro c e
  simp [aop, e] at h

theorem setPs_rel : ∀ {ps : List Nat} {vs : List AV} {us : List Value} {T : List AV} {tmps : Array Value}, All2 (RepV ι) T tmps.toList → All2 (RepV ι) vs us → vs.length = ps.length →
    All2 (RepV ι) (setPs T ps vs) ((ps.zip us).foldl (fun (tmps : Array Value) x => tmps.setIfInBounds x.1 x.2) tmps).toList
  | [], _, _, _, _, h, hv, hl => by
    cases hv with
    | nil => exact h
    | cons => simp at hl
  | p :: ps, _, _, T, tmps, h, hv, hl => by
    cases hv with
    | nil => simp at hl
    | cons h1 t =>
      simp only [List.zip_cons_cons, List.foldl_cons, setPs]
      exact setPs_rel (by rw [Array.toList_setIfInBounds]; exact h.set p _ _ h1) t (by simpa using hl)

theorem inRound_fence (k : FK) (b : Nat) : (fenceOf ι k).inRound b = Fence.wide.inRound b := by cases k <;> rfl

/-- One round of a loop over an iterator. -/
theorem round_ok {Q : AV → Heap → Prop} {fr : Fr} {stk : List Fr} {dst : Option Tmp} {g : FuncId} {l b z : Nat} {T0 : List AV} {ps : List Nat} {vs : List AV} {us : List Value} {tmps : Array Value} {fnr : FuncId} {ca cb : Code} {n m : Nat} {R : Ending → World → Prop}
    (hW : WW E Q { id := g, kind := .round l dst, T := setPs T0 ps vs, items := [.code ca, .begin l, .code cb], D := [], base := H.length } (fr :: stk) H) (hb : ι.blk[l]? = some (b, z)) (r : HRel ι H w) (hg : GlobRep E ι) (hT : All2 (RepV ι) T0 tmps.toList)
    (hv : All2 (RepV ι) vs us) (hlen : vs.length = ps.length) (hk : KOk ι fr.kind) (hT2 : All2 (RepV ι) fr.T a.tmps.toList) (hD : DRel ι fr.D a.defers)
    (hR : ∀ c w', wpIts ι (fenceOf ι fr.kind) m E.P (lift E fr.base ι (KW E Q stk fr.kind fr.id)) fr.items .normal (a.put dst c) w' → R (.returned c) w') :
    RoundIn (fenceOf ι fr.kind) n E.P b fnr ((ps.toArray.zip us.toArray).foldl (fun tmps (t, a) => tmps.setIfInBounds t a) tmps) ca cb w R := by
  refine roundIn_of_wpIn (fence_fn _ _) ?_
  rw [inRound_fence]
  have htm : ((ps.toArray.zip us.toArray).foldl (fun tmps (t, a) => tmps.setIfInBounds t a) tmps) = ((ps.zip us).foldl (fun (tmps : Array Value) x => tmps.setIfInBounds x.1 x.2) tmps) := by
    simp
  have hf : fenceOf ι (.round l dst) = Fence.wide.inRound b := by simp only [fenceOf, blockOf, hb]
  have h := hW n ι { tmps := (ps.toArray.zip us.toArray).foldl (fun tmps (t, a) => tmps.setIfInBounds t a) tmps, defers := [] } w ⟨r, by rw [htm]; exact setPs_rel hT hv hlen, hg⟩ .nil ⟨b, z, hb⟩
  rw [hf] at h
  refine wpIn_mono h ?_
  intro e a1 w1 h1
  cases e with
  | normal =>
    obtain ⟨w2, h2, h3⟩ := h1 b z hb
    refine ⟨w2, h2, wpIn_mono h3 ?_⟩
    rintro e a3 w3 ⟨ι', T', D', H', hEB, r', _, j, hj, rfl, s, pd, g', T1, ps', c', b', d', hl', hW'⟩
    have hE := hEB.full r.len
    have hb' := hE.blk _ _ hb
    obtain ⟨tmps', db, dz, fn', hobj, hT', hdb⟩ := r'.heap.obj _ _ _ _ hl' hb'
    have hend := run_endRound (P := E.P) j hobj
    have hn := hW'
    have fin : R (.returned (.bool j.isNone)) (w3.putObj b (.loop { state := if j.isNone then .ready else .done, pending := j, fn := fn', tmps := tmps', params := ps'.toArray, assign := c', body := b', defers := db })) := by
      refine hR _ _ ?_
      refine next_ok hW' hE (r'.heap.upd hl' rfl hb' (fun k hk => World.putObj_heap_other hk) (by simp) rfl rfl rfl ?_) (RepV_bool _) hT2 hg hD hk
      exact ⟨tmps', db, dz, fn', World.putObj_heap_same (Array.getElem?_eq_some_iff.1 hobj).1, hT', hdb⟩
    cases e <;> simp only [jumpOf] at hj <;> cases hj <;> exact ⟨_, _, hend, fin⟩
  | exit id => exact h1
  | goto id => exact h1
  | ret => exact h1
  | panic c => exact h1
  | outgrown => exact h1

theorem cond_split' {b : Bool} {p q : Prop} (h : cond b p q) : (b = true ∧ p) ∨ (b = false ∧ q) := by
  cases b with
  | false => exact .inr ⟨rfl, h⟩
  | true => exact .inl ⟨rfl, h⟩

theorem apart_run {P : Program} {f : FuncId} (h : ApartOk P f) {vs : List AV} {q : List Prop} {args : List Value} (ha : apartA H vs = some q) (hq : holds q) (r : HRel ι H w) (hv : All2 (RepV ι) vs args) :
    (callFunc f args.toArray).run P w = .ok (.value (.bool false)) w := by
  unfold apartA at ha
  split at ha
  · rename_i o p s off len cap o' p' s' off' len' cap'
    split at ha
    · cases ha
    · rename_i hne
      split at ha
      · rename_i t v t' v' h1 h2
        simp only [Option.some.injEq] at ha; subst ha
        obtain ⟨c1, _, rfl, k1, hv⟩ := hv.cons_inv
        obtain ⟨c2, _, rfl, k2, hv⟩ := hv.cons_inv
        cases hv
        have k1 := k1.one rfl rfl
        have k2 := k2.one rfl rfl
        rw [Rep] at k1 k2
        obtain ⟨b1, z1, n1, e1, f1, _⟩ := k1
        obtain ⟨b2, z2, n2, e2, f2, _⟩ := k2
        simp only [List.cons.injEq, and_true] at f1 f2
        subst f1; subst f2
        obtain ⟨cells, fz, l, rr, g1, g2, g3, g4, g5⟩ := r.obj _ _ _ _ h1 e1
        obtain ⟨cells', fz', l', rr', g1', g2', g3', g4', g5'⟩ := r.obj _ _ _ _ h2 e2
        have g5 : fz = (0, 0) := g5
        subst g5
        have hb : b1 ≠ b2 := by
          intro e; subst e
          exact hne (r.sep _ _ _ _ _ _ _ h1 rfl h2 rfl e1 e2)
        refine h w ⟨b1, _, none⟩ ⟨b2, _, none⟩ _ _ _ _ hb ⟨cells, t, g1⟩ ⟨cells', t', fz', g1', ?_⟩
        have := hq.1
        rw [← Array.length_toList, g2', List.length_append, Rep_len _ _ g4']
        omega
      · cases ha
  · cases ha

theorem enc_all {s : SortD} (h : ∀ ι x l, RepD ι s.c x l ↔ l = s.enc x) : ∀ {xs : List s.c.den} {l : List Value}, RepAll (RepD ι s.c) xs l ↔ l = xs.flatMap s.enc
  | [], l => ⟨fun k => by cases k; rfl, fun e => by rw [e]; exact .nil⟩
  | x :: xs, l => ⟨fun k => by
      cases k with
      | cons h1 h2 => rw [(h _ _ _).1 h1, (enc_all h).1 h2, List.flatMap_cons], fun e => by
      rw [e, List.flatMap_cons]; exact .cons ((h _ _ _).2 rfl) ((enc_all h).2 rfl)⟩

theorem sortArg_ok {s : SortD} {vs : List AV} {x : AV} {args : List Value} (h : sortArg s vs = some x) (hv : All2 (RepV ι) vs args) : ∃ c, args.toArray = #[c] ++ s.rest ∧ RepV ι x c := by
  unfold sortArg at h
  split at h
  · rename_i g x' g' hg
    split at h
    · rename_i e; subst e
      cases h
      obtain ⟨c1, _, rfl, k1, hv⟩ := hv.cons_inv
      obtain ⟨c2, _, rfl, k2, hv⟩ := hv.cons_inv
      cases hv
      obtain ⟨l, rfl, hl⟩ := fn_inv k2
      cases hl
      exact ⟨c1, by unfold SortD.rest; rw [hg]; rfl, k1⟩
    · cases h
  · rename_i x' hg
    cases h
    obtain ⟨c1, _, rfl, k1, hv⟩ := hv.cons_inv
    cases hv
    exact ⟨c1, by unfold SortD.rest; rw [hg]; rfl, k1⟩
  · cases h

theorem sort_call {P : Program} {f : FuncId} {s : SortD} (h : SortOk P f s) {vs : List AV} {q : List Prop} {H' : Heap} {args : List Value} {v : AV} (ha : sortA s H vs = some (q, v, H')) (hq : holds q) (r : HRel ι H w) (hv : All2 (RepV ι) vs args) :
    CallOk P f args.toArray w fun c w' => ∃ ι', Ext ι ι' ∧ HRel ι' H' w' ∧ RepV ι' v c := by
  obtain ⟨⟨henc, hres⟩, hlen, hnil, hall⟩ := h
  unfold sortA at ha
  split at ha
  · rename_i hsa
    obtain ⟨c1, ea, k1⟩ := sortArg_ok hsa hv
    simp only [Option.some.injEq, Prod.mk.injEq] at ha
    obtain ⟨rfl, rfl, rfl⟩ := ha
    have e1 := k1.raw; subst e1
    rw [ea]
    refine (hnil w).mono ?_
    rintro c w' ⟨rfl, hB⟩
    refine ⟨ι.grown w w', r.ext_grown w', r.grown hB, ?_⟩
    unfold SortD.ansN SortD.ansNV
    cases s.res with
    | none => exact ⟨[], rfl, .nil⟩
    | some g => exact RepV_of_rep rfl (by rw [Rep]; exact ⟨rfl, rfl⟩)
  · rename_i ob z off len cap hsa
    obtain ⟨c1, ea, k1⟩ := sortArg_ok hsa hv
    rw [ea]
    split at ha
    · rename_i t m c xs hob
      split at ha
      · rename_i hc; subst hc
        split at ha
        · rename_i hz; subst hz
          simp only [Option.some.injEq, Prod.mk.injEq] at ha
          obtain ⟨rfl, rfl, rfl⟩ := ha
          obtain ⟨hm, hl60, _⟩ := hq
          obtain ⟨b, z, k, hbk, rfl, hk, hkz, hcap⟩ := osl_of k1
          obtain ⟨cells, fz, lo, rr, e1, e2, e3, e4, e5⟩ := (r.obj _ _ _ _ hob hbk).cell
          have e5 := e5 rfl; subst e5
          rw [Rep] at e4
          obtain ⟨hxs, hr⟩ := e4
          have hsz := RepD_len (ι := ι) s.c
          obtain ⟨m1, m2, em, em1, hm1, hm2⟩ := hr.split hsz off (by omega)
          obtain ⟨k1', k3, ek, ek1, hk1, hk2⟩ := hm2.split hsz len (by simp; omega)
          have hkl : ((xs.drop off).take len).length = len := by simp; omega
          have hk1e := (enc_all henc).1 hk1
          have hcl : cells.toList = m1 ++ (k1' ++ (k3 ++ rr)) := by rw [e2, em, ek]; simp [List.append_assoc]
          have hp0 : pathOff [] + off * s.c.size = m1.length := by rw [em1]; simp [pathOff]
          have hrow : (cells.toList.drop m1.length).take (((xs.drop off).take len).length * s.c.size) = ((xs.drop off).take len).flatMap s.enc := by
            rw [hkl, hcl, List.drop_left' rfl, ← ek1, List.take_left' rfl]; exact hk1e
          have hcall := hall w b m1.length k ((xs.drop off).take len) cells t (by rw [hkl]; exact hl60) (by rw [hkl]; exact hk) e1 hrow
          rw [hkl] at hcall
          rw [hp0]
          refine hcall.mono ?_
          rintro c w' ⟨rfl, w1, cells', q1, q2, q3, q4, q5, q6, q7, q8⟩
          have hlf := hlen ((xs.drop off).take len)
          rw [hkl] at hlf
          have hfe : RepAll (RepD ι s.c) (s.f ((xs.drop off).take len)) ((s.f ((xs.drop off).take len)).flatMap s.enc) := (enc_all henc).2 rfl
          have hfl := hfe.len hsz
          rw [hlf] at hfl
          have hc' : cells'.toList = (m1 ++ ((s.f ((xs.drop off).take len)).flatMap s.enc ++ k3)) ++ rr := by
            rw [q2, hcl, List.take_left' rfl]
            have : (m1 ++ (k1' ++ (k3 ++ rr))).drop (m1.length + len * s.c.size) = k3 ++ rr := by
              rw [← List.append_assoc, List.drop_left' (by rw [List.length_append, ek1])]
            rw [this]; simp [List.append_assoc]
          have r1 : HRel ι (H.set ob (.cell true t (.arr m s.c (spliceL xs off (s.f ((xs.drop off).take len)))))) w1 := by
            refine r.upd (z := z) hob rfl hbk q3 q4 q5 q6 q7 ⟨cells', (0, 0), m1 ++ ((s.f ((xs.drop off).take len)).flatMap s.enc ++ k3), rr, q1, hc', ?_, ?_, by simp⟩
            · have hz : cells.toList.length = z := by rw [Array.length_toList]; exact e3
              rw [← Array.length_toList, hc', ← hz, hcl]
              simp only [List.length_append, hfl, ek1]; omega
            · rw [Rep]
              refine ⟨?_, ?_⟩
              · simp only [spliceL, List.length_append, List.length_take, List.length_drop, hlf]; omega
              · unfold spliceL
                refine hm1.app (hfe.app ?_)
                rw [hlf, ← List.drop_drop]
                exact hk2
          refine ⟨ι.grown w1 w', r1.ext_grown w', r1.grown q8, ?_⟩
          unfold SortD.ansA SortD.ansV
          cases hres' : s.res with
          | none => exact ⟨[], rfl, .nil⟩
          | some g =>
            have hg := hres g hres' ((xs.drop off).take len)
            rw [hkl] at hg
            refine RepV_of_rep rfl ?_
            rw [Rep]
            exact ⟨b, z, k, hbk, by rw [hp0], by omega, hkz, hcap⟩
        · cases ha
      · cases ha
    · cases ha
  · cases ha

theorem partI_ok {i : Int} {go : Nat → Prop} : ∀ {n j : Nat}, partI i n j go → (j : Int) ≤ i → i < j + n → ∃ k : Nat, i = k ∧ j ≤ k ∧ k < j + n ∧ go k
  | 0, j, h, _, _ => h.elim
  | 1, j, h, h1, h2 => ⟨j, by omega, by omega, by omega, h⟩
  | n + 2, j, h, h1, h2 => by
    unfold partI at h
    rcases cond_split' h with ⟨hb, h⟩ | ⟨hb, h⟩
    · have : i = j := by simpa [ieq] using hb
      exact ⟨j, this, by omega, by omega, h⟩
    · have hne : ¬ i = j := by simpa [ieq] using hb
      obtain ⟨k, e, k1, k2, hk⟩ := partI_ok (n := n + 1) h (by omega) (by omega)
      exact ⟨k, e, by omega, by omega, hk⟩

theorem plain_ok (hV : E.Valid) {Q : AV → Heap → Prop} {go : List AV → Heap → Prop} {fr : Fr} {stk : List Fr} {o : Oper} (hgo : ∀ T' H', go T' H' → FrameW E { fr with T := T' } (KW E Q stk fr.kind fr.id) H')
    (h : plainA E fr.T H o go) {n : Nat} (r : ARel E ι fr.T H a w) (hD : DRel ι fr.D a.defers) (hk : KOk ι fr.kind) (Q' : Exit → Act → World → Prop) :
    o.wpIn (fenceOf ι fr.kind) n E.P a w (fun a' w' => wpIts ι (fenceOf ι fr.kind) n E.P (lift E fr.base ι (KW E Q stk fr.kind fr.id)) fr.items .normal a' w') Q' := by
  unfold plainA at h
  split at h
  · rename_i q v H' hx
    obtain ⟨hq, hgo'⟩ := obl_ok h
    obtain ⟨ι', w', c, hE, hH, hr, hrun⟩ := aop_ok hV hx hq r
    refine ⟨fun g _ => fence_fn _ g, ?_⟩
    rw [Oper.semAt_eq _ _ _ (aop_noDefer hx)]
    rcases hrun with hrun | ⟨hrun, rfl⟩
    · rw [hrun]; exact next_ok (hgo _ _ hgo') hE hH hr r.tmps r.glob hD hk
    · rw [hrun]; exact next_ok (hgo _ _ hgo') hE hH hr r.tmps r.glob hD hk
  · cases h

/-- An operation of a region is right. -/
theorem exec_ok (hV : E.Valid) (hS : ∀ f sp, E.spec f = some sp → SpecOk E f sp) {Q : AV → Heap → Prop} {K : Cfg} {go : List AV → Heap → Prop} {fr : Fr} {stk : List Fr} {o : Oper} (hK : ∀ fr stk H, K fr stk H → WW E Q fr stk H)
    (hgo : ∀ T' H', go T' H' → FrameW E { fr with T := T' } (KW E Q stk fr.kind fr.id) H') (h : execA E K go fr stk H o) {n : Nat} (r : ARel E ι fr.T H a w) (hD : DRel ι fr.D a.defers) (hk : KOk ι fr.kind) (Q' : Exit → Act → World → Prop) :
    o.wpIn (fenceOf ι fr.kind) n E.P a w (fun a' w' => wpIts ι (fenceOf ι fr.kind) n E.P (lift E fr.base ι (KW E Q stk fr.kind fr.id)) fr.items .normal a' w') Q' := by
  unfold execA at h
  split at h
  case h_1 f args ts hop =>
    have hrunS : ∀ ro, o.semAt ro a.eval = execOp a.eval o := fun ro => semAt_call hop
    dsimp only at h
    split at h
    · rename_i g caps vs hf ha
      obtain ⟨l, hfe, hall⟩ := evs_fn r hf ha
      have hrun : (o.semAt (fenceOf ι fr.kind).round a.eval).run E.P w = (callFunc g (args.toList.map a.eval ++ l).toArray).run E.P w := by
        rw [hrunS]; exact call_run hop hfe
      split at h
      · rename_i hap
        split at h
        · rename_i q hq0
          obtain ⟨hq, hgo'⟩ := obl_ok h
          have hr := apart_run (hV.apart _ hap) hq0 hq r.heap hall
          refine ⟨fun g _ => fence_fn _ g, ?_⟩
          rw [hrun, hr]
          exact next_ok (hgo _ _ hgo') (Ext.refl ι) r.heap (RepV_bool _) r.tmps r.glob hD hk
        · cases h
      split at h
      · rename_i sd hsd
        split at h
        · rename_i q v H' hq0
          obtain ⟨hq, hgo'⟩ := obl_ok h
          refine upon_callOk rfl (sort_call (hV.sort _ _ hsd) hq0 hq r.heap hall) hrun ?_
          rintro c w' ⟨ι', hE, hH, hr⟩
          exact next_ok (hgo _ _ hgo') hE hH hr r.tmps r.glob hD hk
        · cases h
      split at h
      · rename_i sp hsp
        split at h
        · rename_i hfl
          split at h
          · rename_i q us hv
            split at h
            · rename_i x hx
              obtain ⟨hq, hp, hgo'⟩ := obl_ok h
              refine upon_callOk rfl (spec_flat (hS _ _ hsp) hfl hv hq hx hp r.heap r.glob hall) hrun ?_
              rintro c w' ⟨ι', hE, hH, hr⟩
              exact next_ok (hgo _ _ hgo') hE hH hr r.tmps r.glob hD hk
            · cases h
          · cases h
        · split at h
          · rename_i H' hfz
            split at h
            · rename_i q us hv
              split at h
              · rename_i x hx
                obtain ⟨hq, hp, hgo'⟩ := obl_ok h
                split at hgo'
                case h_2 e ho =>
                  split at hgo'
                  · rename_i v ob hown
                    refine upon_callOk rfl (spec_own (hS _ _ hsp) ho hfz hv hq hx hp hown r.heap r.glob hall) hrun ?_
                    rintro c w' ⟨ι', hE, hH, hr⟩
                    exact next_ok (hgo _ _ hgo') hE hH hr r.tmps r.glob hD hk
                  · cases hgo'
                refine upon_callOk rfl (spec_full (hS _ _ hsp) hfz hv hq hx hp r.heap r.glob hall) hrun ?_
                rintro c w' ⟨ι', hE, hH, hr⟩
                exact next_ok (hgo _ _ hgo') hE hH hr r.tmps r.glob hD hk
              · cases h
            · cases h
          · cases h
      · split at h
        · rename_i fn hfn
          split at h
          · rename_i c hc
            have hW := hK _ _ _ h
            refine ⟨fun g _ => fence_fn _ g, ?_⟩
            rw [hrun, callFunc_enter hV hfn hc]
            refine ⟨by rw [fence_depth]; simp, callsIn_fence ?_⟩
            refine body_ok hV rfl hfn hc (.inr (.inl ⟨_, rfl⟩)) hW r.heap r.glob hall ?_
            rintro e T' D' H' ⟨⟨j, hj, hret⟩, fn', H'', q, v, h1, h2, h3, h4, h5⟩
            refine ⟨isRet_cases hj hret, fn', H'', q, v, h1, h2, h3, h4, fun ι' u w' hE hH hu => ?_⟩
            exact next_ok h5 hE hH hu r.tmps r.glob hD hk
          · cases h
        · cases h
    · rename_i g fs vs hf ha
      split at h
      · rename_i fn hfn
        split at h
        · rename_i c hc
          have hW := hK _ _ _ h
          obtain ⟨l, hfe, hl⟩ := bnd_inv (ev_ok hf r)
          have hall : All2 (RepV ι) (fs ++ vs) (l ++ args.toList.map a.eval) := hl.app (evs_ok ha r)
          refine ⟨fun g _ => fence_fn _ g, ?_⟩
          rw [hrunS, bnd_run hop hfe, callFunc_enter hV hfn hc]
          refine ⟨by rw [fence_depth]; simp, callsIn_fence ?_⟩
          refine body_ok hV rfl hfn hc (.inr (.inl ⟨_, rfl⟩)) hW r.heap r.glob hall ?_
          rintro e T' D' H' ⟨⟨j, hj, hret⟩, fn', H'', q, v, h1, h2, h3, h4, h5⟩
          refine ⟨isRet_cases hj hret, fn', H'', q, v, h1, h2, h3, h4, fun ι' u w' hE hH hu => ?_⟩
          exact next_ok h5 hE hH hu r.tmps r.glob hD hk
        · cases h
      · cases h
    · rename_i l vs hf ha
      split at h
      · rename_i s pd g T0 ps ca cb d hl
        split at h
        · rename_i hlen
          have hW := hK _ _ _ h
          have hv := (ev_ok hf r).one rfl rfl
          rw [Rep] at hv
          obtain ⟨b, z, hb, hfe⟩ := hv
          simp only [List.cons.injEq, and_true] at hfe
          obtain ⟨tmps, db, dz, fnr, hobj, hT0, hdb⟩ := r.heap.obj _ _ _ _ hl hb
          have hargs : args.map a.eval = (args.toList.map a.eval).toArray := Array.ext' (by simp)
          have hvs := evs_ok ha r
          have hrun : (o.semAt (fenceOf ι fr.kind).round a.eval).run E.P w = .ok (.round b fnr ((ps.toArray.zip (args.map a.eval)).foldl (fun tmps (t, a) => tmps.setIfInBounds t a) tmps) ca cb) w := by
            rw [hrunS]
            simp only [execOp, hop, resolve, hfe, Deferred.ofValue, Sem.run_bind, Sem.run_pure, Result.andThen, invoke]
            have := run_yield (P := E.P) (args := #[] ++ args.map a.eval) hobj (by simp [← hlen, hvs.len])
            simpa using this
          refine ⟨fun g _ => fence_fn _ g, ?_⟩
          rw [hrun]
          refine ⟨by rw [fence_depth]; simp, ?_⟩
          rw [hargs]
          refine round_ok (m := n) hW hb r.heap r.glob hT0 hvs hlen hk r.tmps hD ?_
          intro c w' hw
          exact hw
        · cases h
      · cases h
    · cases h
  case h_2 args ts hop =>
    dsimp only at h
    split at h
    · rename_i t1 t2 s x hts hargs
      split at h
      · split at h
        · rename_i ht; subst ht
          split at h
          · rename_i q v H' happ
            obtain ⟨hq, h⟩ := obl_ok h
            obtain ⟨cs, hrunb⟩ := builtin_run (E := E) (a := a) (w := w) hop
            have hl := evs_ok hargs r
            obtain ⟨us, _, e1, hs, hl⟩ := hl.cons_inv
            obtain ⟨ux, _, e2, hx, hl⟩ := hl.cons_inv
            cases hl
            have hmap : args.map a.eval = #[us, ux] := by
              have : args.map a.eval = (args.toList.map a.eval).toArray := Array.ext' (by simp)
              rw [this, e1, e2]
            have htse : ts = #[t1, t1] := by cases ts; simpa using hts
            obtain ⟨ι', w', u, hrun, hE, hH, hr⟩ := appR_ok (ty := o.type) hV happ hq r.heap hs hx
            refine ⟨fun g _ => fence_fn _ g, ?_⟩
            rw [semAt_call hop, hrunb, hmap, htse]
            simp only [builtin, Sem.run_bind, hrun, Result.andThen, Sem.run_pure]
            exact next_ok (hgo _ _ h) hE hH hr r.tmps r.glob hD hk
          · cases h
        · cases h
      split at h
      · obtain ⟨cs, hrunb⟩ := builtin_run (E := E) (a := a) (w := w) hop
        have hl := evs_ok hargs r
        obtain ⟨us, _, e1, hs, hl⟩ := hl.cons_inv
        obtain ⟨ux, _, e2, hx, hl⟩ := hl.cons_inv
        cases hl
        have hmap : args.map a.eval = #[us, ux] := by
          have : args.map a.eval = (args.toList.map a.eval).toArray := Array.ext' (by simp)
          rw [this, e1, e2]
        have htse : ts = #[t1, t2] := by cases ts; simpa using hts
        obtain ⟨v, H', ι', w', u, hg, hrun, hE, hH, hr⟩ := appX_ok (ty := o.type) hV h r.heap hs hx
        refine ⟨fun g _ => fence_fn _ g, ?_⟩
        rw [semAt_call hop, hrunb, hmap, htse]
        simp only [builtin, Sem.run_bind, hrun, Result.andThen, Sem.run_pure]
        exact next_ok (hgo _ _ hg) hE hH hr r.tmps r.glob hD hk
      split at h
      · rename_i ht; subst ht
        split at h
        · rename_i d hd
          split at h
          · rename_i e de he
            obtain ⟨he1, he2⟩ := elemD_ok hV he
            split at h
            · rename_i c hsl hc
              have hdesc : d.desc = .slice e := by
                rcases he2 with h' | ⟨m, h'⟩
                · exact h'
                · unfold isSl at hsl; rw [h'] at hsl; cases hsl
              have hu := (hV.ty _ _ hd).1
              rw [hdesc] at hu
              obtain ⟨cs, hrunb⟩ := builtin_run (E := E) (a := a) (w := w) hop
              have hl := evs_ok hargs r
              obtain ⟨us, _, e1, hs, hl⟩ := hl.cons_inv
              obtain ⟨ux, _, e2, hx, hl⟩ := hl.cons_inv
              cases hl
              have hmap : args.map a.eval = #[us, ux] := by
                have : args.map a.eval = (args.toList.map a.eval).toArray := Array.ext' (by simp)
                rw [this, e1, e2]
              have htse : ts = #[t1, t1] := by cases ts; simpa using hts
              have done : ∀ (v : AV) (H' : Heap), FrameW E { fr with T := setO fr.T o.dst v } (KW E Q stk fr.kind fr.id) H' →
                  (∃ ι' w' u, (Builtin.append_ #[t1, t1] o.type #[us, ux]).run E.P w = .ok u w' ∧ Ext ι ι' ∧ HRel ι' H' w' ∧ RepV ι' v u) →
                  o.wpIn (fenceOf ι fr.kind) n E.P a w (fun a' w' => wpIts ι (fenceOf ι fr.kind) n E.P (lift E fr.base ι (KW E Q stk fr.kind fr.id)) fr.items .normal a' w') Q' := by
                rintro v H' hW ⟨ι', w', u, hrun, hE, hH, hr⟩
                refine ⟨fun g _ => fence_fn _ g, ?_⟩
                rw [semAt_call hop, hrunb, hmap, htse]
                simp only [builtin, Sem.run_bind, hrun, Result.andThen, Sem.run_pure]
                exact next_ok hW hE hH hr r.tmps r.glob hD hk
              split at h
              · rename_i hcond
                split at h
                · rename_i q ys happ
                  split at h
                  · obtain ⟨hq, h⟩ := obl_ok h
                    have hus := hs.raw; subst hus
                    by_cases hys : ys.length = 0
                    · have hc0 : ieq ys.length 0 = true := by simp [ieq, hys]
                      rw [hc0] at h
                      refine done _ H (hgo _ _ h) ⟨ι, w, _, ?_, Ext.refl ι, r.heap, hs⟩
                      obtain ⟨l, hl, hcx⟩ := appL_ok happ hq r.heap hx
                      refine append_same hu he1 none 0 0 0 ux ?_ rfl (Nat.le_refl _)
                      rcases hcx with ⟨_, h0 | ⟨a0, h0⟩⟩ | ⟨b, off, k, rfl, _⟩
                      · exact .inl ⟨h0, rfl⟩
                      · exact .inr ⟨a0, 0, h0⟩
                      · exact .inr ⟨_, k, by rw [hys]⟩
                    · have hc0 : ieq ys.length 0 = false := by
                        have hne : ¬ ((ys.length : Int) = 0) := by omega
                        simp only [ieq, beq_eq_false_iff_ne, ne_eq, hne, not_false_eq_true]
                      rw [hc0] at h
                      obtain ⟨h1, h2, h3⟩ := h
                      exact done _ _ (hgo _ _ h3) (append_nil_ok hu he1 hcond.1 happ hq r.heap hx (by omega) h1 h2)
                  · rename_i ob s0 len
                    split at h
                    · rename_i t m c' xs hob
                      split at h
                      · rename_i hcc; subst hcc
                        split at h
                        · rename_i hst
                          obtain ⟨hq, rfl, h1, h2, h3⟩ := obl_ok h
                          obtain ⟨rfl, rfl⟩ := hst
                          exact done _ _ (hgo _ _ h3) (append_own_ok hu he1 hcond.1 happ hq r.heap hx hs hob h1 h2)
                        · cases h
                      · cases h
                    · cases h
                  · rename_i ob s0 off len k
                    split at h
                    · rename_i t m c' xs hob
                      split at h
                      · rename_i hcc; subst hcc
                        split at h
                        · rename_i hst
                          obtain ⟨hq, h⟩ := obl_ok h
                          obtain ⟨rfl, rfl⟩ := hst
                          rcases cond_split' h with ⟨hb, h1, h2, h3, h4⟩ | ⟨hb, h1, h2⟩
                          · have hlt : k < len + ys.length := by simp only [ilt, decide_eq_true_eq] at hb; omega
                            exact done _ _ (hgo _ _ h4) (append_cap_grow_ok hu he1 hcond.1 happ hq r.heap hx hs hob h1 h2 h3 hlt)
                          · have hge : len + ys.length ≤ k := by simp only [ilt, decide_eq_false_iff_not] at hb; omega
                            obtain ⟨w', u, k1, k2, k3⟩ := append_cap_room_ok (ty := o.type) hu he1 hcond.1 happ hq r.heap hx hs hob h1 hge
                            exact done _ _ (hgo _ _ h2) ⟨ι, w', u, k1, Ext.refl ι, k2, k3⟩
                        · cases h
                      · cases h
                    · cases h
                  · cases h
                · cases h
              · cases h
            · cases h
          · cases h
        · cases h
      · split at h
        · rename_i q v H' hz
          obtain ⟨hq, h⟩ := obl_ok h
          obtain ⟨cs, hrunb⟩ := builtin_run (E := E) (a := a) (w := w) hop
          have hl := evs_ok hargs r
          obtain ⟨us, _, e1, hs, hl⟩ := hl.cons_inv
          obtain ⟨ux, _, e2, hx, hl⟩ := hl.cons_inv
          cases hl
          have hmap : args.map a.eval = #[us, ux] := by
            have : args.map a.eval = (args.toList.map a.eval).toArray := Array.ext' (by simp)
            rw [this, e1, e2]
          have htse : ts = #[t1, t2] := by cases ts; simpa using hts
          obtain ⟨ι', w', u, hrun, hE, hH, hr⟩ := zerosA_ok (ty := o.type) hV hz hq r.heap hs hx
          refine ⟨fun g _ => fence_fn _ g, ?_⟩
          rw [semAt_call hop, hrunb, hmap, htse]
          simp only [builtin, Sem.run_bind, hrun, Result.andThen, Sem.run_pure]
          exact next_ok (hgo _ _ h) hE hH hr r.tmps r.glob hD hk
        · cases h
    · cases h
  case h_3 t m k ok hop =>
    dsimp only at h
    split at h
    · rename_i d ob kk n hd hm hk'
      split at h
      · rename_i kt et es hdesc ho
        split at h
        · rename_i dk de hdk hde
          split at h
          · rename_i k0 hkd
            have h1 := (hV.ty _ _ hd).1
            have h2 := (hV.ty _ _ hdk).1
            rw [hdesc] at h1
            rw [hkd] at h2
            have hl : lookA n kk de.zero (fun v fl => go (setO fr.T o.dst (lookV ok v fl)) H) es := by
              split at h
              · rename_i v fl hmg; exact look_merge (go := fun v fl => go (setO fr.T o.dst (lookV ok v fl)) H) hmg h
              · exact h
            obtain ⟨v, fl, c, hg, hr, hrun⟩ := lookup_ok (ok := ok) h1 h2 (hV.ty _ _ hde) r.heap ho (ev_ok hm r) hl
            refine ⟨fun g _ => fence_fn _ g, ?_⟩
            rw [Oper.semAt_eq _ _ _ (by simp [hop])]
            have hrun' : (execOp a.eval o).run E.P w = .ok (.value c) w := by
              simp only [execOp, hop, (ev_ok hk' r).int, Sem.run_bind, hrun, Result.andThen, Sem.run_pure]
            rw [hrun']
            exact next_ok (hgo _ _ hg) (Ext.refl ι) r.heap hr r.tmps r.glob hD hk
          · cases h
        · cases h
      · cases h
    · cases h
  case h_4 t x i hop =>
    dsimp only at h
    split at h
    · rename_i d u k nn hd hu hi
      split at h
      · rename_i m e0 e e2 hdesc hma he
        obtain ⟨⟨hq1, hq2, _⟩, h⟩ := obl_ok (qs := [_, _]) h
        obtain ⟨j, ej, _, _, hj⟩ := partI_ok h (by simpa using hq1) (by simpa using hq2)
        refine plain_ok hV hgo ?_ r hD hk Q'
        unfold plainA
        have : aop E fr.T H o = match indexAddrA d e2.size u (.int k j) with | some (q, v) => some (q, v, H) | none => none := by
          simp only [aop, hop, hd, hu, hi, he, ej]
          generalize indexAddrA d e2.size u (.int k j) = z
          cases z <;> rfl
        rw [this]
        split at hj
        · rename_i q v hx; rw [hx]; exact hj
        · cases hj
      · exact plain_ok hV hgo h r hD hk Q'
    · exact plain_ok hV hgo h r hD hk Q'
  case h_5 t x hop =>
    dsimp only at h
    split at h
    · rename_i d ob p hd hx
      split at h
      · rename_i n el hdesc
        split at h
        · rename_i ee own ty v he ho
          split at h
          · rename_i q m c xs hg
            split at h
            · rename_i hc
              obtain ⟨rfl, hcs⟩ := hc
              obtain ⟨hq, hgo'⟩ := obl_ok h
              have hu := (hV.ty _ _ hd).1
              rw [hdesc] at hu
              have hp := (ev_ok hx r).one rfl rfl
              rw [Rep] at hp
              obtain ⟨b, z, hb, hpe⟩ := hp
              simp only [List.cons.injEq, and_true] at hpe
              obtain ⟨cells, fz, l, rr, e1, e2, e3, e4, e5⟩ := (r.heap.obj _ _ _ _ ho hb).cell
              obtain ⟨l1, mm, l2, el', el1, hu', _⟩ := getP_ok p v l q _ hg hq e4
              rw [Rep] at hu'
              have hlen := RepD_len (.arr m c) _ _ hu'
              have hlen : mm.length = m * c.size := hlen
              have hz : l1.length + mm.length ≤ z := by
                rw [← e3, ← Array.length_toList, e2, el']
                simp
              refine ⟨fun g _ => fence_fn _ g, ?_⟩
              rw [Oper.semAt_eq _ _ _ (by simp [hop])]
              have hrun' : (execOp a.eval o).run E.P w = .ok (.value (.slice (some ⟨b, pathOff p, none⟩) m m)) w := by
                simp only [execOp, hop, Instr.sliceAt, hpe, Sem.run_bind, run_underlying hu, run_sizeOf' (hV.ty _ _ he), Result.andThen, Instr.sureAddr, Sem.run_pure, Instr.sliceBounds, Option.map_none]
                simp
                intro _
                rfl
              rw [hrun']
              refine next_ok (hgo _ _ hgo') (Ext.refl ι) r.heap ?_ r.tmps r.glob hD hk
              refine RepV_of_rep rfl ?_
              rw [Rep]
              exact ⟨b, z, m, hb, by simp, Nat.le_refl _, by rw [el1, hlen, hcs] at hz; simpa using hz, fun k' e => by cases e; rfl⟩
            · cases h
          · cases h
        · cases h
      · cases h
    · exact plain_ok hV hgo h r hD hk Q'
  case h_6 src dst x hop =>
    dsimp only at h
    split at h
    · rename_i s d ob p sz off len cap hs hd hx
      split at h
      · rename_i q u hv
        split at h
        · rename_i z hz
          obtain ⟨hq, hgo'⟩ := obl_ok h
          have hu := viewV_ok r.heap (ι' := ι.all w) ⟨r.heap.prot, fun _ _ h => h⟩ (fun o _ own t v b z _ _ => rfl) hv hq (ev_ok hx r)
          obtain ⟨c, hrun, hr⟩ := strA_ok (ι := ι.all w) hV (hV.ty _ _ hs) (hV.ty _ _ hd) hz (fun b o e => e) hu
          refine ⟨fun g _ => fence_fn _ g, ?_⟩
          rw [Oper.semAt_eq _ _ _ (by simp [hop])]
          have hrun' : (execOp a.eval o).run E.P w = .ok (.value c) w := by
            simp only [execOp, hop, Sem.run_bind, hrun, Result.andThen, Sem.run_pure]
          rw [hrun']
          exact next_ok (hgo _ _ hgo') (Ext.refl ι) r.heap (hr ι) r.tmps r.glob hD hk
        · cases h
      · cases h
    · exact plain_ok hV hgo h r hD hk Q'
  case h_7 t x i hop =>
    dsimp only at h
    split at h
    · rename_i d ss vs k nn hd hu hi
      split at h
      · rename_i m e0 e e2 hdesc he
        obtain ⟨⟨hq1, hq2, _⟩, h⟩ := obl_ok (qs := [_, _]) h
        obtain ⟨j, ej, _, _, hj⟩ := partI_ok h (by simpa using hq1) (by simpa using hq2)
        refine plain_ok hV hgo ?_ r hD hk Q'
        unfold plainA
        have : aop E fr.T H o = match indexA d e2 (.agg ss vs) (.int k j) with | some (q, v) => some (q, v, H) | none => none := by
          simp only [aop, hop, hd, hu, hi, he, ej]
          generalize indexA d e2 (.agg ss vs) (.int k j) = z
          cases z <;> rfl
        rw [this]
        split at hj
        · rename_i q v hx; rw [hx]; exact hj
        · cases hj
      · exact plain_ok hV hgo h r hD hk Q'
    · exact plain_ok hV hgo h r hD hk Q'
  case h_8 op t x y ty hop =>
    dsimp only at h
    split at h
    · rename_i c xs hx hy
      split at h
      · rename_i d hd
        have hu := (hV.ty _ _ hd).1
        have hy' := (ev_ok hy r).raw
        have hx' := (ev_ok hx r).one rfl rfl
        rw [Rep] at hx'
        obtain ⟨v, hv, hx'⟩ := hx'
        simp only [List.cons.injEq, and_true] at hv
        have fin : ∀ b, (execOp a.eval o).run E.P w = .ok (.value (.bool b)) w → go (setO fr.T o.dst (.bool b)) H → o.wpIn (fenceOf ι fr.kind) n E.P a w (fun a' w' => wpIts ι (fenceOf ι fr.kind) n E.P (lift E fr.base ι (KW E Q stk fr.kind fr.id)) fr.items .normal a' w') Q' := by
          intro b hrun hg
          refine ⟨fun g _ => fence_fn _ g, ?_⟩
          rw [Oper.semAt_eq _ _ _ (by simp [hop]), hrun]
          exact next_ok (hgo _ _ hg) (Ext.refl ι) r.heap (RepV_bool _) r.tmps r.glob hD hk
        have sl : ∃ p m k, v = .slice p m k ∧ (p.isNone = true → ieq xs.length 0 = true) := by
          rcases hx' with ⟨h0, rfl | ⟨p, rfl⟩⟩ | ⟨b, off, k, cells, tt, fz, l, rfl, _⟩
          · exact ⟨none, 0, 0, rfl, fun _ => by rw [h0]; rfl⟩
          · exact ⟨some p, 0, 0, rfl, fun h => by cases h⟩
          · exact ⟨some _, _, _, rfl, fun h => by cases h⟩
        obtain ⟨p, m, k, rfl, hpn⟩ := sl
        have hg : ∀ op xo yo, (eqGuard op t xo yo (.slice p m k) (.slice none 0 0)).run E.P w = .ok () w := by intro op xo yo; unfold eqGuard; split <;> rfl
        split at h
        · rename_i e hde
          rw [hde] at hu
          have hrun : (execOp a.eval o).run E.P w = .ok (.value (.bool p.isNone)) w := by
            simp only [execOp, hop, hv, hy', Sem.run_bind, hg, Result.andThen, binOp, run_equal_nil hu, Sem.run_pure]
          refine fin _ hrun ?_
          cases hp : p.isNone with
          | true =>
            rw [hpn hp] at h
            exact h.1
          | false =>
            cases hz : ieq (xs.length : Int) 0 with
            | true => rw [hz] at h; exact h.2
            | false => rw [hz] at h; exact h
        · rename_i e hde
          rw [hde] at hu
          have hrun : (execOp a.eval o).run E.P w = .ok (.value (.bool (!p.isNone))) w := by
            simp only [execOp, hop, hv, hy', Sem.run_bind, hg, Result.andThen, binOp, run_equal_nil hu, Sem.run_pure]
          refine fin _ hrun ?_
          cases hp : p.isNone with
          | true =>
            rw [hpn hp] at h
            exact h.1
          | false =>
            cases hz : ieq (xs.length : Int) 0 with
            | true => rw [hz] at h; exact h.2
            | false => rw [hz] at h; exact h
        · cases h
      · cases h
    · exact plain_ok hV hgo h r hD hk Q'
  case h_9 => exact plain_ok hV hgo h r hD hk Q'
end Go.Eng
end
section
/- The evaluator is right: its steps. -/
namespace Go.Eng
open Go.RowKit
variable {E : Env} {ι : Inst} {T : List AV} {H : Heap} {a : Act} {w : World}

/-- Items may be exchanged where the one reading gives the other. -/
theorem frame_items {fr : Fr} {p : Post} {k' : List It} (hW : FrameW E { fr with items := k' } p H)
    (h : ∀ n ι F a w, ARel E ι fr.T H a w → wpIts ι F n E.P (lift E fr.base ι p) k' .normal a w → wpIts ι F n E.P (lift E fr.base ι p) fr.items .normal a w) : FrameW E fr p H :=
  fun n ι a w r hD hk => h n ι _ a w r (hW n ι a w r hD hk)

theorem cond_split {b : Bool} {p q : Prop} (h : cond b p q) : (b = true ∧ p) ∨ (b = false ∧ q) := by
  cases b with
  | false => exact .inr ⟨rfl, h⟩
  | true => exact .inl ⟨rfl, h⟩

theorem wpIts_blk {F : Fence} {n : Nat} {P : Program} {Q : Exit → Act → World → Prop} {id : Nat} {k : List It} : ∀ e a w, wpIts ι F n P Q (.blk id :: k) e a w → Exit.inBlock id (wpIts ι F n P Q k) e a w := by
  intro e a w h; cases e <;> exact h

theorem wpIts_code {F : Fence} {n : Nat} {P : Program} {Q : Exit → Act → World → Prop} {c : Code} {k : List It} : ∀ e a w, wpIts ι F n P Q (.code c :: k) e a w → Exit.then (c.wpIn F n P (wpIts ι F n P Q k)) (wpIts ι F n P Q k) e a w := by
  intro e a w h; cases e <;> exact h

theorem wpIts_lp {F : Fence} {n : Nat} {P : Program} {Q : Exit → Act → World → Prop} {c : Code} {k : List It} : ∀ e a w, wpIts ι F n P Q (.lp c :: k) e a w → Exit.then (LoopI F n P c (wpIts ι F n P Q k)) (wpIts ι F n P Q k) e a w := by
  intro e a w h; cases e <;> exact h

/-- A scope whose code is left by no goto. -/
theorem wpIn_scope {F : Fence} {n : Nat} {P : Program} {Q : Exit → Act → World → Prop} {c : Code} (h : c.wpIn F n P (Exit.noGoto Q) a w) : (Code.scope c).wpIn F n P Q a w := by
  intro b k cs hro hb hr
  have h0 : (lone (b.atR a (.code (.scope c) :: k)) cs w).fenced P F := fenced_calm hb hr rfl
  have s0 : step P (lone (b.atR a (.code (.scope c) :: k)) cs w) = .next (lone (b.atR a (.code c :: .inScope c :: k)) cs w) := step_lone_go (by simp [stepG, stepG.exec, Frame.atR])
  have s1 : ∀ a w, step P (lone (b.atR a (.inScope c :: k)) cs w) = .next (lone (b.atR a k) cs w) := fun a w => step_lone_go (by simp [stepG, stepG.exec, Frame.atR])
  obtain ⟨e, a₁, w₁, hq, harr⟩ := h b (.inScope c :: k) cs hro hb hr
  cases e with
  | normal => exact ⟨.normal, a₁, w₁, hq, .head h0 s0 (StepsIn.trans harr (.one (fenced_calm hb hr rfl) (s1 _ _)))⟩
  | exit id =>
    have hx : exitTo id (.inScope c :: k) = exitTo id k := by simp [exitTo]
    exact ⟨.exit id, a₁, w₁, hq, fun k' hk => .head h0 s0 (harr.1 k' (by rw [hx]; exact hk)),
      fun hr' hk => let ⟨k₁, h1, h2⟩ := harr.2 hr' (by rw [hx]; exact hk); ⟨k₁, h1, .head h0 s0 h2⟩⟩
  | goto l => exact hq.elim
  | ret => exact ⟨_, a₁, w₁, hq, .of_steps (.one h0 s0) harr⟩
  | panic ch => exact ⟨_, a₁, w₁, hq, .of_steps (.one h0 s0) harr⟩
  | outgrown => exact ⟨_, a₁, w₁, hq, .of_steps (.one h0 s0) harr⟩

theorem wpIts_scp {F : Fence} {n : Nat} {P : Program} {Q : Exit → Act → World → Prop} {k : List It} : ∀ e a w, wpIts ι F n P Q (.scp :: k) e a w → Exit.noGoto (wpIts ι F n P Q k) e a w := by
  intro e a w h; cases e <;> exact h

theorem wpIts_exit {F : Fence} {n : Nat} {P : Program} {Q : Exit → Act → World → Prop} {id : Nat} : ∀ {k k' : List It}, toBlk id k = some k' → wpIts ι F n P Q k' .normal a w → wpIts ι F n P Q k (.exit id) a w
  | [], _, h, _ => by cases h
  | it :: k, k', h, hw => by
    cases it with
    | blk j =>
      simp only [toBlk] at h
      simp only [wpIts]
      split at h
      · rename_i e; cases h; rw [if_pos e.symm]; exact hw
      · rename_i e; rw [if_neg (fun e' => e e'.symm)]; exact wpIts_exit h hw
    | begin l => cases h
    | fin l => cases h
    | scp => exact wpIts_exit (k := k) h hw
    | code c => exact wpIts_exit (k := k) h hw
    | now c => exact wpIts_exit (k := k) h hw
    | lp c => exact wpIts_exit (k := k) h hw
    | ops all rest => exact wpIts_exit (k := k) h hw

theorem wpIts_leave {F : Fence} {n : Nat} {P : Program} {Q : Exit → Act → World → Prop} : ∀ {k : List It} {e : Exit}, (e = .ret ∨ ∃ id, e = .exit id ∧ toBlk id k = none) → through k = true → Q e a w → wpIts ι F n P Q k e a w
  | [], _, _, _, h => h
  | it :: k, e, he, ht, h => by
    cases it with
    | blk j =>
      have he' : e = .ret ∨ ∃ id, e = .exit id ∧ toBlk id k = none ∧ j ≠ id := by
        rcases he with rfl | ⟨id, rfl, hb⟩
        · exact .inl rfl
        · simp only [toBlk] at hb
          split at hb
          · cases hb
          · rename_i hj; exact .inr ⟨id, rfl, hb, hj⟩
      rcases he' with rfl | ⟨id, rfl, hb, hj⟩
      · exact wpIts_leave (k := k) (.inl rfl) ht h
      · simp only [wpIts]; rw [if_neg (fun e => hj e.symm)]; exact wpIts_leave (k := k) (.inr ⟨id, rfl, hb⟩) ht h
    | begin l => cases ht
    | fin l => cases ht
    | scp =>
      rcases he with rfl | ⟨id, rfl, hb⟩
      · exact wpIts_leave (k := k) (.inl rfl) ht h
      · exact wpIts_leave (k := k) (.inr ⟨id, rfl, hb⟩) ht h
    | code c =>
      rcases he with rfl | ⟨id, rfl, hb⟩
      · exact wpIts_leave (k := k) (.inl rfl) ht h
      · exact wpIts_leave (k := k) (.inr ⟨id, rfl, hb⟩) ht h
    | now c =>
      rcases he with rfl | ⟨id, rfl, hb⟩
      · exact wpIts_leave (k := k) (.inl rfl) ht h
      · exact wpIts_leave (k := k) (.inr ⟨id, rfl, hb⟩) ht h
    | lp c =>
      rcases he with rfl | ⟨id, rfl, hb⟩
      · exact wpIts_leave (k := k) (.inl rfl) ht h
      · exact wpIts_leave (k := k) (.inr ⟨id, rfl, hb⟩) ht h
    | ops all rest =>
      rcases he with rfl | ⟨id, rfl, hb⟩
      · exact wpIts_leave (k := k) (.inl rfl) ht h
      · exact wpIts_leave (k := k) (.inr ⟨id, rfl, hb⟩) ht h

theorem leave_ok {Q : AV → Heap → Prop} {K : Cfg} (hK : ∀ fr stk H, K fr stk H → WW E Q fr stk H) {fr : Fr} {stk : List Fr} {j : Option Code} {e : Exit} (he : jumpOf e = some j) (h : leave E Q K fr j stk H) :
    KW E Q stk fr.kind fr.id e fr.T fr.D H := by
  unfold leave at h
  split at h
  · rename_i l dst fr' stk' hkind
    split at h
    · rename_i s p f T0 ps ca cb d hl
      split at h
      · rename_i hD
        rw [hkind]
        exact ⟨j, he, List.isEmpty_iff.1 hD, s, p, f, T0, ps, ca, cb, d, hl, hK _ _ _ h⟩
      · cases h
    · cases h
  · rename_i hne
    split at h
    · rename_i hret
      split at h
      · rename_i fn hfn
        split at h
        · rename_i H' hc
          split at h
          · rename_i q v hr
            have h2 := obl_ok h
            clear h
            obtain ⟨hq, h⟩ := h2
            split at h
            · rename_i hkind
              rw [hkind]
              exact ⟨⟨j, he, hret⟩, fn, H', q, v, hfn, hc, hr, hq, h⟩
            · rename_i dst fr' stk' hkind
              rw [hkind]
              exact ⟨⟨j, he, hret⟩, fn, H', q, v, hfn, hc, hr, hq, hK _ _ _ h⟩
            · rename_i l fr' stk' hkind
              rw [hkind]
              exact ⟨⟨j, he, hret⟩, fn, H', q, v, hfn, hc, hr, hq, hK _ _ _ h⟩
            · cases h
          · cases h
        · cases h
      · cases h
    · cases h
end Go.Eng
end
section
/- The evaluator is right: all its steps; contracts out of runs. -/
namespace Go.Eng
open Go.RowKit
variable {E : Env} {ι : Inst} {T : List AV} {H : Heap} {a : Act} {w : World}

theorem wanted_none {o : Oper} {y : Nat → Option Bool} (h : o.guard = none) : Region.wanted o y = true := by simp [Region.wanted, h]

def boolOf : Value → Option Bool
  | .bool b => some b
  | _ => none

theorem yielded_at {all : List Oper} {j : Nat} {t : Tmp} {c : Value} (h1 : (all[j]?).bind (·.dst) = some t) (h2 : a.tmps.toList[t]? = some c) : yielded all.toArray a.tmps j = boolOf c := by
  have h3 : a.tmps[t]? = some c := by simpa using h2
  simp only [yielded, List.getElem?_toArray, h1, Option.bind_some, h3]
  cases c <;> rfl

theorem set_bool {t : Nat} {b b' : Bool} (hb : b = b') (h : All2 (RepV ι) T a.tmps.toList) (ht : T[t]? = some (.bool b)) : All2 (RepV ι) (T.set t (.bool b')) a.tmps.toList := by
  refine h.set_same t _ fun c hc => ?_
  obtain ⟨c', e, k⟩ := h.at t _ ht
  rw [hc] at e; cases e
  rw [k.bool, hb]; exact RepV_bool _

theorem entT_yld {l b z : Nat} {caps : List AV} {us : List Value} (hb : ι.blk[l]? = some (b, z)) (h : All2 (RepV ι) caps us) : All2 (RepV ι) (.yld l :: caps) (.func (.yield b) #[] #[] :: us) :=
  .cons (RepV_of_rep rfl (by rw [Rep]; exact ⟨b, z, hb, rfl⟩)) h

theorem range_ok (hV : E.Valid) {Q : AV → Heap → Prop} {fr : Fr} {stk : List Fr} {k : List It} {f : Operand} {ps : Array Tmp} {asg body : Code} {g : FuncId} {caps : List AV} {fn : Func} {c : Code}
    (hit : fr.items = .code (.rangeFunc f ps asg body) :: k) (hf : ev E fr.T f = some (.fn g caps)) (hfn : E.fns g = some fn) (hc : fn.body = some c)
    (hW : (∃ l0 dst s p f' T' ps' a' b' d, fr.kind = .round l0 dst ∧ H[l0]? = some (.loop s p f' T' ps' a' b' d) ∧
        WW E Q { id := g, kind := .iter H.length, T := entT fn (.yld H.length :: caps), items := [.code c], D := [], base := H.length + 1 } ({ fr with items := .fin H.length :: k } :: stk) (H ++ [.loop .ready none fr.id fr.T ps.toList asg body d])) ∨
      ((∀ l0 dst, fr.kind ≠ .round l0 dst) ∧ WW E Q { id := g, kind := .iter (H.length + 1), T := entT fn (.yld (H.length + 1) :: caps), items := [.code c], D := [], base := H.length + 2 } ({ fr with items := .fin (H.length + 1) :: k, D := H.length :: fr.D } :: stk)
        (H ++ [.dfd, .loop .ready none fr.id fr.T ps.toList asg body H.length]))) :
    WW E Q fr stk H := by
  intro n ι a w r hD hk
  rw [hit]
  refine wpIn_rangeFunc fun fnr _ => ?_
  obtain ⟨l, hfe, hcaps⟩ := fn_inv (ev_ok hf r)
  have hres : ∀ (b : Nat) (w1 : World), (resolve a.eval (rangeCall f b) 0).run E.P w1 = .ok { target := .fn (.func g) l.toArray, args := #[.func (.yield b) #[] #[]] } w1 := fun b w1 => by
    simp only [resolve, hfe]
    simp [Act.eval, Deferred.ofValue]
  have hinv : ∀ (b : Nat) (w1 : World), (invoke (.fn (.func g) l.toArray) #[.func (.yield b) #[] #[]]).run E.P w1 = .ok (.enter g (Value.func (.yield b) #[] #[] :: l).toArray) w1 := fun b w1 => by
    have := callFunc_enter (w := w1) hV hfn hc (Value.func (.yield b) #[] #[] :: l).toArray
    simpa [invoke] using this
  -- what the iterator's frame owes
  have fin : ∀ {ι1 : Inst} {H1 : Heap} {w1 : World} {lid b z : Nat} {D' : List Nat} {mark : List Deferred} {β : Nat}, β = H1.length → Ext ι ι1 → HRel ι1 H1 w1 → ι1.blk[lid]? = some (b, z) → DRel ι1 D' (mark ++ a.defers) →
      WW E Q { id := g, kind := .iter lid, T := entT fn (.yld lid :: caps), items := [.code c], D := [], base := β } ({ fr with items := .fin lid :: k, D := D' } :: stk) H1 →
      CallsIn (fenceOf ι fr.kind) (n - 1) E.P g (Value.func (.yield b) #[] #[] :: l).toArray w1 (rangePost (fenceOf ι fr.kind) n E.P b (wpIts ι (fenceOf ι fr.kind) n E.P (lift E fr.base ι (KW E Q stk fr.kind fr.id)) k) { a with defers := mark ++ a.defers }) := by
    intro ι1 H1 w1 lid b z D' mark β hβ hE hH hb hD' hW
    refine callsIn_fence (ι := ι) (k := fr.kind) ?_
    refine body_ok (ι := ι1) hV hβ hfn hc (.inr (.inr ⟨_, rfl⟩)) hW hH (r.glob.mono hE) (entT_yld hb (All2.imp (fun _ _ => RepV_mono hE) hcaps)) ?_
    rintro e T' D2 H2 ⟨⟨j, hj, hret⟩, fn', H'', q, v, h1, h2, h3, h4, h5⟩
    refine ⟨isRet_cases hj hret, fn', H'', q, v, h1, h2, h3, h4, fun ι2 u w2 hE2 hH2 _ => ?_⟩
    have hEE := hE.trans hE2
    have := h5 n ι2 { a with defers := mark ++ a.defers } w2 ⟨hH2, All2.imp (fun _ _ => RepV_mono hEE) r.tmps, r.glob.mono hEE⟩ (hD'.mono hE2) (hk.mono hEE)
    have hff : fenceOf ι2 fr.kind = fenceOf ι fr.kind := fenceOf_ext hEE hk
    simp only [hff] at this
    obtain ⟨jump, w4, he, hj'⟩ := this b z (hE2.blk _ _ hb)
    refine ⟨jump, w4, he, ?_⟩
    cases jump with
    | none => exact wpIts_mono hEE.blk (lift_ext hEE) _ _ _ _ hj'
    | some cc => exact wpIn_mono hj' (wpIts_mono hEE.blk (lift_ext hEE) _)
  rcases hW with ⟨l0, dst, s, p, f', T', ps', a', b', d, hkind, hl0, hW⟩ | ⟨hnr, hW⟩
  · obtain ⟨b0, z0, hb0⟩ := r.heap.blk_some hl0
    obtain ⟨tmps0, db, dz, fn0, hobj, _, hdb⟩ := r.heap.obj _ _ _ _ hl0 hb0
    have hround : (fenceOf ι fr.kind).round = some b0 := by rw [hkind]; simp only [fenceOf, blockOf, hb0]; rfl
    let rcd : Loop := { state := .ready, pending := none, fn := fnr, tmps := a.tmps, params := ps, assign := asg, body := body, defers := db }
    have hE := Ext.add ι w.heap.size 0
    have hH : HRel (ι.add w.heap.size 0) (H ++ [.loop .ready none fr.id fr.T ps.toList asg body d]) (w.alloc (.loop rcd)) :=
      r.heap.alloc (.loop rcd) 0 _ ⟨a.tmps, db, dz, fnr, heap_alloc_new, All2.imp (fun _ _ => RepV_mono hE) r.tmps, hE.blk _ _ hdb⟩
    have hb : (ι.add w.heap.size 0).blk[H.length]? = some (w.heap.size, 0) := by rw [r.heap.len]; exact ι.add_at _ _
    refine ⟨w.heap.size, [], w.alloc (.loop rcd), _, w.alloc (.loop rcd), g, _, w.alloc (.loop rcd), ?_, hres _ _, fun g' _ => fence_fn _ g', hinv _ _, by rw [fence_depth]; simp, fin (by simp) hE hH hb (hD.mono hE) hW⟩
    rw [hround]
    simp only [Instr.enterLoop, Sem.run_bind, run_getLoop hobj, Result.andThen, Sem.run_pure]
    rfl
  · have hround : (fenceOf ι fr.kind).round = none := by
      cases hkd : fr.kind with
      | round l0 dst => exact absurd hkd (hnr l0 dst)
      | _ => rfl
    let rcd : Loop := { state := .ready, pending := none, fn := fnr, tmps := a.tmps, params := ps, assign := asg, body := body, defers := w.heap.size }
    have hE1 := Ext.add ι w.heap.size 0
    have hH1 : HRel (ι.add w.heap.size 0) (H ++ [.dfd]) (w.alloc (.deferred (some []))) := r.heap.alloc (.deferred (some [])) 0 .dfd heap_alloc_new
    have hE2 := Ext.add (ι.add w.heap.size 0) (w.alloc (.deferred (some []))).heap.size 0
    have hEE := hE1.trans hE2
    have hdb : (ι.add w.heap.size 0).blk[H.length]? = some (w.heap.size, 0) := by rw [r.heap.len]; exact ι.add_at _ _
    have hH2 := hH1.alloc (.loop rcd) 0 (.loop .ready none fr.id fr.T ps.toList asg body H.length) ⟨a.tmps, w.heap.size, 0, fnr, heap_alloc_new, All2.imp (fun _ _ => RepV_mono hEE) r.tmps, hE2.blk _ _ hdb⟩
    rw [List.append_assoc, List.singleton_append] at hH2
    have hb : ((ι.add w.heap.size 0).add (w.alloc (.deferred (some []))).heap.size 0).blk[H.length + 1]? = some (w.heap.size + 1, 0) := by
      have := (ι.add w.heap.size 0).add_at (w.alloc (.deferred (some []))).heap.size 0
      have hl : (ι.add w.heap.size 0).blk.length = H.length + 1 := by simp [Inst.add, r.heap.len]
      rw [hl] at this
      simpa using this
    refine ⟨w.heap.size + 1, [{ target := .collected w.heap.size, args := #[] }], (w.alloc (.deferred (some []))).alloc (.loop rcd), _, (w.alloc (.deferred (some []))).alloc (.loop rcd), g, _, (w.alloc (.deferred (some []))).alloc (.loop rcd), ?_, hres _ _,
      fun g' _ => fence_fn _ g', hinv _ _, by rw [fence_depth]; simp, fin (by simp) hEE hH2 hb ?_ hW⟩
    · rw [hround]; exact run_enterLoop_outer _ _ _ _ _
    · exact .cons ⟨w.heap.size, 0, hE2.blk _ _ hdb, rfl⟩ (hD.mono hEE)
end Go.Eng
end
section
/- The evaluator is right: regions that draw their order. -/
namespace Go.Eng
open Go.RowKit
variable {E : Env} {ι : Inst} {T : List AV} {H : Heap} {a : Act} {w : World}

/-! ### What an operation looks at -/
theorem ev_set {d : Option Tmp} {v : AV} {x : Operand} (h : ∀ t, d = some t → x ≠ .tmp t) : ev E (setO T d v) x = ev E T x := by
  cases d with
  | none => rfl
  | some t =>
    cases x with
    | tmp u =>
      have : t ≠ u := fun e => h t rfl (by rw [e])
      simp only [ev, setO, List.getElem?_set_ne this]
    | _ => rfl

theorem evs_congr {T T' : List AV} : ∀ {l : List Operand}, (∀ x ∈ l, ev E T x = ev E T' x) → evs E T l = evs E T' l
  | [], _ => rfl
  | x :: l, h => by
    have h1 := evs_congr (T := T) (T' := T') (l := l) fun y hy => h y (List.mem_cons_of_mem _ hy)
    simp only [evs, h x (List.mem_cons_self ..), h1]

theorem evParts_congr {T T' : List AV} : ∀ {l : List (Nat × Operand)}, (∀ x ∈ l, ev E T x.2 = ev E T' x.2) → evParts E T l = evParts E T' l
  | [], _ => rfl
  | (i, x) :: l, h => by
    have h1 := evParts_congr (T := T) (T' := T') (l := l) fun y hy => h y (List.mem_cons_of_mem _ hy)
    have h2 := h (i, x) (List.mem_cons_self ..)
    simp only [evParts, h2, h1]

theorem evO_congr {T T' : List AV} {x : Option Operand} (h : ∀ y, x = some y → ev E T y = ev E T' y) : evO E T x = evO E T' x := by
  cases x with
  | none => rfl
  | some y => simp only [evO, h y rfl]

theorem aop_congr {T T' : List AV} {o : Oper} (h : ∀ x ∈ o.op.operands, ev E T x = ev E T' x) : aop E T H o = aop E T' H o := by
  unfold aop
  cases hop : o.op <;> rw [hop] at h <;> try rfl
  all_goals simp only [Op.operands] at h
  all_goals try dsimp only
  case move x => rw [h x (by simp)]
  case assign x => rw [h x (by simp)]
  case pick c x y => rw [h c (by simp), h x (by simp), h y (by simp)]
  case box t x => rw [h x (by simp)]
  case build t ps => rw [evParts_congr (T' := T') fun x hx => h x.2 (by simp; exact ⟨x.1, by simpa using hx⟩)]
  case buildSlice t n ps => rw [evParts_congr (T' := T') fun x hx => h x.2 (by simp; exact ⟨x.1, by simpa using hx⟩)]
  case load t x => rw [h x (by simp)]
  case store t x y => rw [h x (by simp), h y (by simp)]
  case nilCheck x => rw [h x (by simp)]
  case binOp op t x y u => rw [h x (by simp), h y (by simp)]
  case unOp op t x => rw [h x (by simp)]
  case convert s d x => rw [h x (by simp)]
  case makeFunc f first caps =>
    have : evs E T caps.toList = evs E T' caps.toList := evs_congr fun x hx => h x (by simp at hx ⊢; exact .inr hx)
    have h2 : evs E T first.toList = evs E T' first.toList := evs_congr fun x hx => h x (by simp at hx ⊢; exact .inl hx)
    cases f <;> first | rfl | skip
    dsimp only
    rw [this]
    cases hfl : first.toList with
    | nil => cases evs E T' caps.toList <;> rfl
    | cons x l =>
      rw [hfl] at h2
      cases hc : evs E T' caps.toList with
      | none => rfl
      | some cs => cases cs with
        | nil => dsimp only; rw [h2]
        | cons => rfl
  case fieldAddr s x f => rw [h x (by simp)]
  case field s x f => rw [h x (by simp)]
  case indexAddr t x i => rw [h x (by simp), h i (by simp)]
  case index t x i => rw [h x (by simp), h i (by simp)]
  case slice t x lo hi mx =>
    cases mx with
    | some m => rfl
    | none =>
      dsimp only
      rw [h x (by simp), evO_congr (T' := T') fun y e => h y (by simp [e]), evO_congr (T' := T') (x := hi) fun y e => h y (by simp [e])]
  case extract x i => rw [h x (by simp)]
  case lookup t m k ok => rw [h m (by simp), h k (by simp)]
  case mapUpdate t m k x => rw [h m (by simp), h k (by simp), h x (by simp)]
  case insert t m k x => rw [h m (by simp), h k (by simp), h x (by simp)]
  case makeMap t r => cases r <;> rfl
  case makeSlice t l c => rw [h l (by simp), h c (by simp)]
  case call c =>
    obtain ⟨callee, args, ts⟩ := c
    cases callee with
    | builtin b =>
      have : evs E T args.toList = evs E T' args.toList := evs_congr fun x hx => h x (by simp [Call.operands]; simpa using hx)
      dsimp only
      rw [this]
    | _ => rfl

theorem fexec0_congr {T T' : List AV} {o : Oper} (h : ∀ x ∈ o.op.operands, ev E T x = ev E T' x) : fexec0 E T H o = fexec0 E T' H o := by
  unfold fexec0
  split
  · rename_i f args ts hop
    simp only [hop, Op.operands, Call.operands] at h
    rw [h f (by simp), evs_congr (T' := T') fun x hx => h x (by simp; right; simpa using hx)]
  · rename_i args ts hop
    simp only [hop, Op.operands, Call.operands] at h
    rw [evs_congr (T' := T') fun x hx => h x (by simpa using hx)]
  · rw [aop_congr h]
  · exact aop_congr h

theorem fexecO_congr {T T' : List AV} {o : Oper} (h : ∀ x ∈ o.op.operands, ev E T x = ev E T' x) : fexecO E T H o = fexecO E T' H o := by
  unfold fexecO
  split
  · rename_i f args ts hop
    simp only [hop, Op.operands, Call.operands] at h
    rw [h f (by simp), evs_congr (T' := T') fun x hx => h x (by simp; right; simpa using hx)]
  · rfl

theorem fexec_congr {T T' : List AV} {o : Oper} (h : ∀ x ∈ o.op.operands, ev E T x = ev E T' x) : fexec E T H o = fexec E T' H o := by
  unfold fexec; rw [fexecO_congr h, fexec0_congr h]

theorem fexec_not {o : Oper} (h : ownCall E o.op = false) : fexec E T H o = fexec0 E T H o := by unfold fexec; rw [h]; rfl
theorem ownCall_reads {o : Oper} (h : readsH o.op = false) : ownCall E o.op = false := by
  unfold ownCall
  split
  · rename_i hop; rw [hop] at h; exact absurd h (by simp [readsH])
  · rfl

theorem aop_keeps {o : Oper} {q : List Prop} {v : AV} {H' : Heap} (hw : writesH o.op = false) (h : aop E T H o = some (q, v, H')) : H' = H := by
  unfold aop at h
  cases hop : o.op <;> rw [hop] at h hw <;> try dsimp only at h
  all_goals try (exfalso; revert hw; simp [writesH]; done)
  all_goals (repeat' split at h) <;> first | (cases h; done) | (simp only [Option.some.injEq, Prod.mk.injEq] at h; exact h.2.2.symm) | contradiction | (exfalso; simp_all [writesH])

/-- Where the heap is not looked at, it does not matter. -/
theorem aop_blind {o : Oper} (hr : readsH o.op = false) : aop E T H o = (aop E T [] o).map fun x => (x.1, x.2.1, H) := by
  unfold aop
  cases hop : o.op <;> rw [hop] at hr <;> try dsimp only
  all_goals try (exfalso; revert hr; simp [readsH]; done)
  all_goals (repeat' split) <;> first | rfl | contradiction | (exfalso; simp_all [readsH])
end Go.Eng
end
section
/- The evaluator is right: regions that draw their order, all orders. -/
namespace Go.Eng
open Go.RowKit
variable {E : Env} {ι : Inst} {T : List AV} {H : Heap} {a : Act} {w : World} {ops : Array Oper}

/-- What an operation of a region comes to, its guard looked at. -/
def eff (E : Env) (ops : Array Oper) (o : Oper) (T : List AV) (H : Heap) : Option (List Prop × AV × Heap) :=
  match o.guard with
  | none => fexec E T H o
  | some (j, want) => match (ops[j]?).bind (·.dst) with
    | some t => match T[t]? with
      | some (.bool b) => if b = want then fexec E T H o else some ([], .undef, H)
      | some (.tup _) => some ([], .undef, H)
      | _ => none
    | none => none

theorem fexec0_keeps {o : Oper} {q : List Prop} {v : AV} {H' : Heap} (hw : writesH o.op = false) (h : fexec0 E T H o = some (q, v, H')) : H' = H := by
  unfold fexec0 at h
  split at h
  · (repeat' split at h) <;> first | (cases h; done) | (simp only [Option.some.injEq, Prod.mk.injEq] at h; exact h.2.2.symm)
  · rename_i hop; rw [hop] at hw; exact absurd hw (by simp [writesH])
  · rename_i hop; rw [hop] at hw; exact absurd hw (by simp [writesH])
  · exact aop_keeps hw h

theorem fexec0_blind {o : Oper} (hr : readsH o.op = false) : fexec0 E T H o = (fexec0 E T [] o).map fun x => (x.1, x.2.1, H) := by
  unfold fexec0
  split
  · rename_i hop; rw [hop] at hr; exact absurd hr (by simp [readsH])
  · rename_i hop; rw [hop] at hr; exact absurd hr (by simp [readsH])
  · rename_i hop; rw [hop] at hr; exact absurd hr (by simp [readsH])
  · rename_i h; exact aop_blind hr

theorem fexec_keeps {o : Oper} {q : List Prop} {v : AV} {H' : Heap} (hw : writesE E o.op = false) (h : fexec E T H o = some (q, v, H')) : H' = H := by
  unfold writesE at hw
  simp only [Bool.or_eq_false_iff] at hw
  rw [fexec_not hw.2] at h
  exact fexec0_keeps hw.1 h

theorem fexec_blind {o : Oper} (hr : readsH o.op = false) : fexec E T H o = (fexec E T [] o).map fun x => (x.1, x.2.1, H) := by
  rw [fexec_not (ownCall_reads hr), fexec_not (ownCall_reads hr)]
  exact fexec0_blind hr

theorem eff_keeps {o : Oper} {q : List Prop} {v : AV} {H' : Heap} (hw : writesE E o.op = false) (h : eff E ops o T H = some (q, v, H')) : H' = H := by
  unfold eff at h
  split at h
  · exact fexec_keeps hw h
  · split at h
    · split at h
      · split at h
        · exact fexec_keeps hw h
        · simp only [Option.some.injEq, Prod.mk.injEq] at h; exact h.2.2.symm
      · simp only [Option.some.injEq, Prod.mk.injEq] at h; exact h.2.2.symm
      · cases h
    · cases h

theorem eff_blind {o : Oper} (hr : readsH o.op = false) : eff E ops o T H = (eff E ops o T []).map fun x => (x.1, x.2.1, H) := by
  unfold eff
  split
  · exact fexec_blind hr
  · split
    · split
      · split
        · exact fexec_blind hr
        · rfl
      · rfl
      · rfl
    · rfl

/-- What stood there stands there still. -/
def Keeps (H H' : Heap) : Prop := ∀ (i : Nat) own t v, H[i]? = some (AObj.cell own t v) → ∃ own', H'[i]? = some (AObj.cell own' t v) ∧ (own = false → own' = false)

theorem Keeps.refl (H : Heap) : Keeps H H := fun _ own _ _ h => ⟨own, h, id⟩
theorem Keeps.trans {A B C : Heap} (h : Keeps A B) (k : Keeps B C) : Keeps A C := fun i own t v e => by
  obtain ⟨o1, e1, f1⟩ := h i own t v e
  obtain ⟨o2, e2, f2⟩ := k i o1 t v e1
  exact ⟨o2, e2, fun z => f2 (f1 z)⟩
theorem Keeps.app (H X : Heap) : Keeps H (H ++ X) := fun i own t v e => ⟨own, (by
  have hi := (List.getElem?_eq_some_iff.1 e).1
  rw [List.getElem?_append_left hi]; exact e), id⟩

theorem keeps_freeze : ∀ {os : List Nat} {H H' : Heap}, freezeA H os = some H' → Keeps H H'
  | [], H, H', h => by simp only [freezeA, Option.some.injEq] at h; subst h; exact Keeps.refl _
  | o :: os, H, H', h => by
    simp only [freezeA] at h
    split at h
    · rename_i own t v ho
      refine Keeps.trans (B := H.set o (.cell false t v)) (fun i own' t' v' e => ?_) (keeps_freeze h)
      by_cases hi : o = i
      · subst hi
        rw [ho] at e; cases e
        have hlt := (List.getElem?_eq_some_iff.1 ho).1
        exact ⟨false, by simp [hlt], fun _ => rfl⟩
      · exact ⟨own', (by rw [List.getElem?_set_ne hi]; exact e), id⟩
    · cases h

theorem keeps_settle {ps ps' : List (Nat × AV)} {q : List Prop} {H H' : Heap} (h : settle H ps = some (q, ps', H')) : Keeps H H' := by
  unfold settle at h
  split at h
  · simp only [Option.some.injEq, Prod.mk.injEq] at h; obtain ⟨_, _, rfl⟩ := h; exact Keeps.refl _
  · split at h
    · rename_i H1 hf
      split at h
      · simp only [Option.some.injEq, Prod.mk.injEq] at h; obtain ⟨_, _, rfl⟩ := h; exact keeps_freeze hf
      · cases h
    · cases h

theorem load_mono {H H' : Heap} (hk : Keeps H H') {a : AV} {x : List Prop × AV} (h : loadA H a = some x) : loadA H' a = some x := by
  unfold loadA at *
  cases a <;> first | (cases h; done) | skip
  case ptr o p =>
    dsimp only at *
    split at h
    · rename_i own t v ho
      obtain ⟨own', e, _⟩ := hk _ _ _ _ ho
      rw [e]; exact h
    · cases h
  case ref v => exact h

mutual
theorem view_mono {H H' : Heap} (hk : Keeps H H') : ∀ {v : AV} {x : List Prop × AV}, view H v = some x → view H' v = some x
  | .ptr o p, x, h => by
    simp only [view] at h ⊢
    split at h
    · rename_i own t v ho
      obtain ⟨own', e, _⟩ := hk _ _ _ _ ho
      rw [e]; exact h
    · cases h
  | .osl o p s off len cap, x, h => by
    simp only [view] at h ⊢
    split at h
    · rename_i own t v ho
      obtain ⟨own', e, _⟩ := hk _ _ _ _ ho
      rw [e]; exact h
    · cases h
  | .agg ss vs, x, h => by
    simp only [view] at h ⊢
    split at h
    · rename_i q us hv
      rw [views_mono hk hv]; exact h
    · cases h
  | .int _ _, x, h => by simp only [view] at h ⊢; exact h
  | .bool _, x, h => by simp only [view] at h ⊢; exact h
  | .str _, x, h => by simp only [view] at h ⊢; exact h
  | .raw _, x, h => by simp only [view] at h ⊢; exact h
  | .arr _ _ _, x, h => by simp only [view] at h ⊢; exact h
  | .tup _, x, h => by simp only [view] at h ⊢; exact h
  | .ref _, x, h => by simp only [view] at h ⊢; exact h
  | .fsl _ _, x, h => by simp only [view] at h ⊢; exact h
  | .fn _ _, x, h => by simp only [view] at h ⊢; exact h
  | .bnd _ _, x, h => by simp only [view] at h ⊢; exact h
  | .yld _, x, h => by simp only [view] at h ⊢; exact h
  | .mp _, x, h => by simp only [view] at h ⊢; exact h
  | .row _ _ _, x, h => by simp only [view] at h ⊢; exact h
  | .any, x, h => by simp only [view] at h ⊢; exact h
  | .junk, x, h => by simp only [view] at h ⊢; exact h
theorem views_mono {H H' : Heap} (hk : Keeps H H') : ∀ {vs : List AV} {x : List Prop × List AV}, views H vs = some x → views H' vs = some x
  | [], x, h => by simp only [views] at h ⊢; exact h
  | v :: vs, x, h => by
    simp only [views] at h ⊢
    split at h
    · rename_i q u q' us h1 h2
      rw [view_mono hk h1, views_mono hk h2]; exact h
    · cases h
end

theorem frozenB_mono {H H' : Heap} (hk : Keeps H H') {os : List Nat} (h : frozenB H os = true) : frozenB H' os = true := by
  unfold frozenB at h ⊢
  rw [List.all_eq_true] at h ⊢
  intro o ho
  have := h o ho
  split at this
  · rename_i t v e
    obtain ⟨own', e', f⟩ := hk _ _ _ _ e
    rw [e', f rfl]
  · cases this

theorem frozen_freeze {H : Heap} : ∀ {os : List Nat}, frozenB H os = true → freezeA H os = some H
  | [], _ => rfl
  | o :: os, h => by
    unfold frozenB at h
    rw [List.all_cons, Bool.and_eq_true] at h
    obtain ⟨h1, h2⟩ := h
    split at h1
    · rename_i t v e
      have : H.set o (.cell false t v) = H := by
        apply List.ext_getElem?
        intro i
        rw [List.getElem?_set]
        split
        · rename_i z; subst z; rw [if_pos (List.getElem?_eq_some_iff.1 e).1, e]
        · rfl
      simp only [freezeA, e, this]
      exact frozen_freeze h2
    · cases h1

theorem cold_some {r : Option (List Prop × AV × Heap)} {q : List Prop} {v : AV} {H' : Heap} (h : coldA E r = some (q, v, H')) : ∃ H1, r = some (q, v, H1) ∧ (H' = H1 ∨ freezeA H1 (handsOf v) = some H') := by
  unfold coldA at h
  split at h
  · split at h
    · split at h
      · rename_i hf
        simp only [Option.some.injEq, Prod.mk.injEq] at h
        obtain ⟨rfl, rfl, rfl⟩ := h
        exact ⟨_, rfl, .inr hf⟩
      · cases h
    · cases h
  · exact ⟨H', h, .inl rfl⟩

theorem fexec0_mono {H H' : Heap} (hk : Keeps H H') {o : Oper} (hl : loadsB o.op = true) {q : List Prop} {v : AV} {H1 : Heap} (h : fexec0 E T H o = some (q, v, H1)) : fexec0 E T H' o = some (q, v, H') := by
  unfold loadsB at hl
  split at hl
  · rename_i t x hop
    have e1 : ∀ H, fexec0 E T H o = match E.ty t, ev E T x with
      | some d, some a => match loadA H a with
        | some (q, v) => if szV v = d.size ∧ aggB v = d.agg then some (q, v, H) else none
        | none => none
      | _, _ => none := fun H => by
        simp only [fexec0, aop, hop]
        cases E.ty t <;> cases ev E T x <;> rfl
    rw [e1] at h ⊢
    split at h
    · rename_i d a hd ha
      split at h
      · rename_i q' v' hla
        rw [load_mono hk hla]
        split at h
        · rename_i hc
          simp only [Option.some.injEq, Prod.mk.injEq] at h
          obtain ⟨rfl, rfl, rfl⟩ := h
          simp only [hc, and_self, if_true]
        · cases h
      · cases h
    · cases h
  · rename_i f args ts hop
    have e1 : ∀ H, fexec0 E T H o = match ev E T f, evs E T args.toList with
      | some (.fn f caps), some as => match E.spec f with
        | some sp => if (sp.cod.flat || frozenB H (handsOfL (as ++ caps))) = true then
            match views H (as ++ caps) with
            | some (q, us) => match argsD sp.dom us with
              | some x => some (q ++ [sp.pre x], resV sp.n sp.cod (sp.f x), H)
              | none => none
            | none => none
          else none
        | none => none
      | _, _ => none := fun H => by
        simp only [fexec0, hop]
        rfl
    rw [e1] at h ⊢
    split at h
    · rename_i g caps as hf ha
      split at h
      · rename_i sp hsp
        split at h
        · rename_i hc
          split at h
          · rename_i q' us hv
            split at h
            · rename_i x hx
              simp only [Option.some.injEq, Prod.mk.injEq] at h
              obtain ⟨rfl, rfl, rfl⟩ := h
              have hc' : (sp.cod.flat || frozenB H' (handsOfL (as ++ caps))) = true := by
                rw [Bool.or_eq_true] at hc ⊢
                exact hc.imp id (frozenB_mono hk)
              simp only [hc', if_true, views_mono hk hv, hx]
            · cases h
          · cases h
        · cases h
      · cases h
    · cases h
  · cases hl

theorem fexec0_grows {H H' : Heap} {o : Oper} (hg : growsB o.op = true) {q : List Prop} {v : AV} (h : fexec0 E T H o = some (q, v, H')) : Keeps H H' := by
  unfold growsB at hg
  have fin : ∀ {q0 : List Prop} {v0 : AV} {X : Heap}, some (q0, v0, H ++ X) = some (q, v, H') → Keeps H H' := by
    intro q0 v0 X h
    simp only [Option.some.injEq, Prod.mk.injEq] at h; rw [← h.2.2]; exact Keeps.app _ _
  split at hg
  · rename_i t hop
    simp only [fexec0, aop, hop] at h
    split at h
    · unfold boxA at h; split at h
      · exact fin h
      · cases h
    · cases h
  · rename_i t x hop
    simp only [fexec0, aop, hop] at h
    split at h
    · unfold boxA at h; split at h
      · exact fin h
      · cases h
    · cases h
  · rename_i t n ps hop
    have h0 : coldA E (aop E T H o) = some (q, v, H') := by
      have e : fexec0 E T H o = coldA E (aop E T H o) := by unfold fexec0; rw [hop]
      rw [← e]; exact h
    obtain ⟨H1, h1, h2⟩ := cold_some h0
    have k1 : Keeps H H1 := by
      have fin : ∀ {q0 : List Prop} {v0 : AV} {X : Heap}, some (q0, v0, H ++ X) = some (q, v, H1) → Keeps H H1 := by
        intro q0 v0 X h
        simp only [Option.some.injEq, Prod.mk.injEq] at h; rw [← h.2.2]; exact Keeps.app _ _
      simp only [aop, hop] at h1
      (repeat' split at h1) <;> first | (cases h1; done) | exact fin h1 | skip
      rename_i hset _ _ _ _ _
      simp only [Option.some.injEq, Prod.mk.injEq] at h1; rw [← h1.2.2]
      exact (keeps_settle hset).trans (Keeps.app _ _)
    rcases h2 with rfl | h2
    · exact k1
    · exact k1.trans (keeps_freeze h2)
  · rename_i t x hop
    cases x <;> simp only [fexec0, aop, hop] at h
    · exact fin h
    · cases h
  · rename_i t x y hop
    simp only [fexec0, aop, hop] at h
    (repeat' split at h) <;> first | (cases h; done) | skip
    unfold makeA at h
    (repeat' split at h) <;> first | (cases h; done) | exact fin h
  · cases hg

theorem fexec_mono {H H' : Heap} (hk : Keeps H H') {o : Oper} (hl : loadsE E o.op = true) {q : List Prop} {v : AV} {H1 : Heap} (h : fexec E T H o = some (q, v, H1)) : fexec E T H' o = some (q, v, H') := by
  simp only [loadsE, Bool.and_eq_true, Bool.not_eq_true'] at hl
  rw [fexec_not hl.2] at h ⊢
  exact fexec0_mono hk hl.1 h

theorem fexec_grows {H H' : Heap} {o : Oper} (hg : growsE E o.op = true) {q : List Prop} {v : AV} (h : fexec E T H o = some (q, v, H')) : Keeps H H' := by
  unfold growsE at hg
  by_cases ho : ownCall E o.op = true
  · unfold fexec at h
    rw [if_pos ho] at h
    unfold fexecO at h
    (repeat' split at h) <;> first | (cases h; done) | (simp only [Option.some.injEq, Prod.mk.injEq] at h; rw [← h.2.2]; exact Keeps.app _ _)
  · have ho : ownCall E o.op = false := by simpa using ho
    rw [ho, Bool.or_false] at hg
    rw [fexec_not ho] at h
    exact fexec0_grows hg h

theorem eff_mono {H H' : Heap} (hk : Keeps H H') {o : Oper} (hl : loadsE E o.op = true) {q : List Prop} {v : AV} {H1 : Heap} (h : eff E ops o T H = some (q, v, H1)) : H1 = H ∧ eff E ops o T H' = some (q, v, H') := by
  have hw : writesE E o.op = false := by
    simp only [loadsE, Bool.and_eq_true, Bool.not_eq_true'] at hl
    obtain ⟨hl, ho⟩ := hl
    unfold writesE
    rw [ho, Bool.or_false]
    unfold loadsB at hl
    split at hl
    · rename_i hop; rw [hop]; rfl
    · rename_i hop; rw [hop]; rfl
    · cases hl
  refine ⟨eff_keeps hw h, ?_⟩
  unfold eff at h ⊢
  split at h
  · exact fexec_mono hk hl h
  · split at h
    · split at h
      · split at h
        · rename_i e; simp only [if_pos e]; exact fexec_mono hk hl h
        · rename_i e; simp only [if_neg e]
          simp only [Option.some.injEq, Prod.mk.injEq] at h; obtain ⟨rfl, rfl, _⟩ := h; rfl
      · simp only [Option.some.injEq, Prod.mk.injEq] at h; obtain ⟨rfl, rfl, _⟩ := h; rfl
      · cases h
    · cases h

theorem eff_grows {H H' : Heap} {o : Oper} (hg : growsE E o.op = true) {q : List Prop} {v : AV} (h : eff E ops o T H = some (q, v, H')) : Keeps H H' := by
  unfold eff at h
  split at h
  · exact fexec_grows hg h
  · split at h
    · split at h
      · split at h
        · exact fexec_grows hg h
        · simp only [Option.some.injEq, Prod.mk.injEq] at h; rw [← h.2.2]; exact Keeps.refl _
      · simp only [Option.some.injEq, Prod.mk.injEq] at h; rw [← h.2.2]; exact Keeps.refl _
      · cases h
    · cases h

theorem mem_looks {o : Oper} {d : Tmp} (h : Operand.tmp d ∈ o.op.operands) : d ∈ o.looksAt ops :=
  List.mem_append_left _ (List.mem_filterMap.2 ⟨.tmp d, by simpa using h, rfl⟩)

theorem eff_set {o : Oper} {d : Option Tmp} {v : AV} (h : ∀ t, d = some t → t ∉ o.looksAt ops) : eff E ops o (setO T d v) H = eff E ops o T H := by
  have h1 : fexec E (setO T d v) H o = fexec E T H o := fexec_congr fun x hx => ev_set fun t ht e => h t ht (mem_looks (e ▸ hx))
  unfold eff
  rw [h1]
  split
  · rfl
  · rename_i j want hg
    split
    · rename_i t ht
      have : (setO T d v)[t]? = T[t]? := by
        cases d with
        | none => rfl
        | some d =>
          have hne : d ≠ t := fun e => h d rfl (by subst e; exact List.mem_append_right _ (by simp [hg, ht]))
          simp only [setO]
          rw [List.getElem?_set_ne hne]
      rw [this]
    · rfl

def sOp (E : Env) (ops : Array Oper) (i : Nat) (K : List AV → Heap → Prop) (T : List AV) (H : Heap) : Prop :=
  match ops[i]? with
  | none => K T H
  | some o => ∃ q v H', eff E ops o T H = some (q, v, H') ∧ holds q ∧ K (setO T o.dst v) H'

theorem sOp_mono {i : Nat} {K K' : List AV → Heap → Prop} (h : ∀ T H, K T H → K' T H) (k : sOp E ops i K T H) : sOp E ops i K' T H := by
  unfold sOp at *
  split
  · rename_i e; rw [e] at k; exact h _ _ k
  · rename_i o e; rw [e] at k
    obtain ⟨q, v, H', h1, h2, h3⟩ := k
    exact ⟨q, v, H', h1, h2, h _ _ h3⟩

/-- T differs from T0 at most where the region's operations write. -/
def Like (ops : Array Oper) (T0 T : List AV) : Prop := (∀ a, (∀ x ∈ ops, x.dst ≠ some a) → T[a]? = T0[a]?) ∧ ∀ n a ob, rootOf T0 ops n a = some ob → okT ob T[a]? = true

theorem like_refl (T : List AV) : Like ops T T := by
  refine ⟨fun _ _ => rfl, fun n a ob h => ?_⟩
  cases n with
  | zero => cases h
  | succ n =>
    simp only [rootOf] at h
    split at h
    · split at h
      · rename_i ob' p hT; cases h; rw [hT]; simp [okT]
      · cases h
    · split at h
      · split at h
        · split at h
          · rename_i hk; cases h; exact hk
          · cases h
        · cases h
      · cases h

theorem eff_addr {o : Oper} {b : Nat} (hop : (∃ s f, o.op = .fieldAddr s (.tmp b) f) ∨ o.op = .nilCheck (.tmp b)) {ob : Nat} (hb : okT ob T[b]? = true) {q : List Prop} {v : AV} {H' : Heap} (h : eff E ops o T H = some (q, v, H')) : okT ob (some v) = true := by
  have key : fexec E T H o = some (q, v, H') → okT ob (some v) = true := by
    intro h
    rw [fexec_not (by rcases hop with ⟨s, f, hop⟩ | hop <;> (rw [hop]; rfl))] at h
    rcases hop with ⟨s, f, hop⟩ | hop
    · simp only [fexec0, aop, hop] at h
      split at h
      · rename_i d x hd hx
        have hx : T[b]? = some x := hx
        rw [hx] at hb
        split at h
        · rename_i q' v' hf
          simp only [Option.some.injEq, Prod.mk.injEq] at h
          obtain ⟨_, rfl, _⟩ := h
          unfold fieldAddrA at hf
          split at hf
          · split at hf
            · simp only [Option.some.injEq, Prod.mk.injEq] at hf
              obtain ⟨_, rfl⟩ := hf
              exact hb
            · simp [okT] at hb
            · cases hf
          · cases hf
        · cases h
      · cases h
    · simp only [fexec0, aop, hop] at h
      split at h
      · rename_i x hx
        have hx : T[b]? = some _ := hx
        rw [hx] at hb
        simp only [Option.some.injEq, Prod.mk.injEq] at h
        obtain ⟨_, rfl, _⟩ := h
        exact hb
      · rename_i x hx
        have hx : T[b]? = some _ := hx
        rw [hx] at hb
        simp [okT] at hb
      · rename_i x hx
        simp only [Option.some.injEq, Prod.mk.injEq] at h
        obtain ⟨_, rfl, _⟩ := h
        rfl
      · rename_i x hx
        simp only [Option.some.injEq, Prod.mk.injEq] at h
        obtain ⟨_, rfl, _⟩ := h
        rfl
      · cases h
  unfold eff at h
  split at h
  · exact key h
  · split at h
    · split at h
      · split at h
        · exact key h
        · simp only [Option.some.injEq, Prod.mk.injEq] at h; obtain ⟨_, rfl, _⟩ := h; rfl
      · simp only [Option.some.injEq, Prod.mk.injEq] at h; obtain ⟨_, rfl, _⟩ := h; rfl
      · cases h
    · cases h

theorem Like.set {T0 : List AV} (h : Like ops T0 T) {i : Nat} {o : Oper} (hi : ops[i]? = some o) {q : List Prop} {v : AV} {H' : Heap} (he : eff E ops o T H = some (q, v, H')) : Like ops T0 (setO T o.dst v) := by
  refine ⟨fun a ha => ?_, fun n a ob hr => ?_⟩
  · have hne := ha o (Array.mem_of_getElem? hi)
    cases hd : o.dst with
    | none => exact h.1 a ha
    | some d =>
      rw [hd] at hne
      have : d ≠ a := fun e => hne (by rw [e])
      simp only [setO]
      rw [List.getElem?_set_ne this]
      exact h.1 a ha
  · have hold := h.2 n a ob hr
    cases hd : o.dst with
    | none => exact hold
    | some d =>
      simp only [setO]
      by_cases hda : d = a
      · subst hda
        rw [List.getElem?_set_self']
        cases hTd : T[d]? with
        | none => rfl
        | some w =>
          cases n with
          | zero => cases hr
          | succ n =>
            simp only [rootOf] at hr
            split at hr
            · rename_i hall
              have := Array.all_eq_true_iff_forall_mem.1 hall o (Array.mem_of_getElem? hi)
              rw [hd] at this; simp at this
            · split at hr
              · rename_i o' hfil
                have ho : o ∈ ops.toList.filter (fun x => x.dst == some d) := List.mem_filter.2 ⟨by simpa using Array.mem_of_getElem? hi, by rw [hd]; simp⟩
                rw [hfil] at ho
                have : o = o' := by simpa using ho
                subst this
                split at hr
                · rename_i ob' hm
                  split at hr
                  · cases hr
                    split at hm
                    · rename_i s b f hop
                      exact eff_addr (.inl ⟨s, f, hop⟩) (h.2 n b ob hm) he
                    · rename_i b hop
                      exact eff_addr (.inr hop) (h.2 n b ob hm) he
                    · cases hm
                  · cases hr
                · cases hr
              · cases hr
      · rw [List.getElem?_set_ne hda]; exact hold

theorem sOp_monoL {T0 : List AV} {i : Nat} {K K' : List AV → Heap → Prop} (hl : Like ops T0 T) (h : ∀ T H, Like ops T0 T → K T H → K' T H) (k : sOp E ops i K T H) : sOp E ops i K' T H := by
  unfold sOp at *
  split
  · rename_i e; rw [e] at k; exact h _ _ hl k
  · rename_i o e; rw [e] at k
    obtain ⟨q, v, H', h1, h2, h3⟩ := k
    exact ⟨q, v, H', h1, h2, h _ _ (hl.set e h1) h3⟩

theorem setO_comm {d e : Option Tmp} {v u : AV} (h : ∀ t, d = some t → e ≠ some t) : setO (setO T d v) e u = setO (setO T e u) d v := by
  cases d with
  | none => rfl
  | some d =>
    cases e with
    | none => rfl
    | some e =>
      have : d ≠ e := fun x => h d rfl (x ▸ rfl)
      simp only [setO]
      exact List.set_comm _ _ this

def appO (ob : Nat) (u : Option AObj) (H : Heap) : Heap := match u with | some c => H.set ob c | none => H

theorem appO_at {ob j : Nat} {u : Option AObj} (h : ob ≠ j) : (appO ob u H)[j]? = H[j]? := by
  cases u with
  | none => rfl
  | some c => simp only [appO]; rw [List.getElem?_set_ne h]

theorem appO_comm {a b : Nat} {u v : Option AObj} (h : a ≠ b) : appO b v (appO a u H) = appO a u (appO b v H) := by
  cases u <;> cases v <;> first | rfl | skip
  simp only [appO]; exact List.set_comm _ _ h

/-- A load or a store looks at one object alone. -/
theorem fexec_local {T0 : List AV} (hl : Like ops T0 T) {o : Oper} {ob : Nat} (ho : objAt T0 ops o = some ob) {q : List Prop} {v : AV} {H' : Heap} (h : fexec E T H o = some (q, v, H')) :
    ∃ u, H' = appO ob u H ∧ ∀ H2 : Heap, H2[ob]? = H[ob]? → fexec E T H2 o = some (q, v, appO ob u H2) := by
  unfold objAt at ho
  split at ho
  · rename_i t a hop
    have hk0 := hl.2 8 a ob ho
    have hf : ∀ H2, fexec E T H2 o = aop E T H2 o := fun H2 => by rw [fexec_not (by rw [hop]; rfl)]; unfold fexec0; rw [hop]
    have hpt : ∃ p, ev E T (.tmp a) = some (.ptr ob p) := by
      rw [hf] at h
      simp only [aop, hop] at h
      split at h
      · rename_i d u hd hu
        have hu' : T[a]? = some u := hu
        rw [hu'] at hk0
        cases u <;> first | (simp [loadA] at h; done) | (simp [okT] at hk0; done) | skip
        rename_i ob' p
        have : ob' = ob := by simpa [okT] using hk0
        subst this
        exact ⟨p, hu⟩
      · cases h
    obtain ⟨p, hev⟩ := hpt
    refine ⟨none, ?_, fun H2 hH => ?_⟩
    · exact fexec_keeps (by rw [hop]; rfl) h
    · have hk := fexec_keeps (by rw [hop]; rfl) h
      subst hk
      rw [hf] at h ⊢
      simp only [aop, hop, hev] at h ⊢
      cases ht : E.ty t with
      | none => rw [ht] at h; cases h
      | some d =>
        rw [ht] at h
        simp only [loadA, hH] at h ⊢
        split at h
        · rename_i q' v' hg
          split at h
          · rename_i hc
            simp only [Option.some.injEq, Prod.mk.injEq, and_true] at h
            obtain ⟨rfl, rfl⟩ := h
            simp only [appO]
            rw [if_pos hc]
          · cases h
        · cases h
  · rename_i t a x hop
    have hk0 := hl.2 8 a ob ho
    have hf : ∀ H2, fexec E T H2 o = aop E T H2 o := fun H2 => by rw [fexec_not (by rw [hop]; rfl)]; unfold fexec0; rw [hop]
    have hpt : ∃ p, ev E T (.tmp a) = some (.ptr ob p) := by
      rw [hf] at h
      simp only [aop, hop] at h
      split at h
      · rename_i d u xv hd hu hx
        have hu' : T[a]? = some u := hu
        rw [hu'] at hk0
        cases u <;> first | (simp [storeA] at h; done) | (simp [okT] at hk0; done) | skip
        rename_i ob' p
        have : ob' = ob := by simpa [okT] using hk0
        subst this
        exact ⟨p, hu⟩
      · cases h
    obtain ⟨p, hev⟩ := hpt
    rw [hf] at h
    simp only [aop, hop, hev] at h
    split at h
    · rename_i d pv xv hd hpv hx
      cases hpv
      split at h
      · rename_i hc
        split at h
        · rename_i q' H1 hst
          simp only [Option.some.injEq, Prod.mk.injEq] at h
          obtain ⟨rfl, rfl, rfl⟩ := h
          simp only [storeA] at hst
          split at hst
          · rename_i ty vv hob
            split at hst
            · rename_i q2 u2 hg
              split at hst
              · rename_i hsz
                split at hst
                · rename_i v2 hs
                  simp only [Option.some.injEq, Prod.mk.injEq] at hst
                  obtain ⟨rfl, rfl⟩ := hst
                  refine ⟨some (.cell true ty v2), rfl, fun H2 hH => ?_⟩
                  rw [hf]
                  simp only [aop, hop, hev, hd, hx]
                  rw [if_pos hc]
                  simp only [storeA, hH, hob, hg, if_pos hsz, hs, appO]
                · cases hst
              · cases hst
            · cases hst
          · cases hst
        · cases h
      · cases h
    · cases h
  · cases ho

theorem eff_local {T0 : List AV} (hl : Like ops T0 T) {o : Oper} {ob : Nat} (ho : objAt T0 ops o = some ob) {q : List Prop} {v : AV} {H' : Heap} (h : eff E ops o T H = some (q, v, H')) :
    ∃ u, H' = appO ob u H ∧ ∀ H2 : Heap, H2[ob]? = H[ob]? → eff E ops o T H2 = some (q, v, appO ob u H2) := by
  have skip : some ([], AV.undef, H) = some (q, v, H') → ∃ u, H' = appO ob u H ∧ ∀ H2 : Heap, H2[ob]? = H[ob]? → some (([] : List Prop), AV.undef, H2) = some (q, v, appO ob u H2) := by
    intro h
    simp only [Option.some.injEq, Prod.mk.injEq] at h
    obtain ⟨rfl, rfl, rfl⟩ := h
    exact ⟨none, rfl, fun H2 _ => rfl⟩
  unfold eff at h ⊢
  split at h
  · exact fexec_local hl ho h
  · split at h
    · split at h
      · split at h
        · rename_i e
          simp only [if_pos e]
          exact fexec_local hl ho h
        · rename_i e
          simp only [if_neg e]
          exact skip h
      · exact skip h
      · cases h
    · cases h

/-- Two operations apart may be exchanged. -/
theorem sOp_swap {T0 : List AV} {i j : Nat} {oi oj : Oper} (hi : ops[i]? = some oi) (hj : ops[j]? = some oj) (hap : apartS E T0 ops oi oj = true) (hl : Like ops T0 T) {K : List AV → Heap → Prop} (k : sOp E ops i (sOp E ops j K) T H) : sOp E ops j (sOp E ops i K) T H := by
  simp only [apartS, Bool.and_eq_true, Bool.or_eq_true, Bool.not_eq_true', Bool.and_eq_false_iff] at hap
  obtain ⟨hap, h45⟩ := hap
  obtain ⟨h1, h2, h3⟩ := Oper.apart_spec hap
  simp only [sOp, hi, hj] at k ⊢
  obtain ⟨q, v, H1, e1, hq, q', v', H2, e2, hq', hk⟩ := k
  rw [eff_set h1] at e2
  rcases h45 with (h45 | ⟨h6, h7⟩) | ⟨h4, h5⟩
  rotate_left
  · obtain ⟨rfl, e1'⟩ := eff_mono (Keeps.refl _) h6 e1
    obtain ⟨_, e1''⟩ := eff_mono (eff_grows h7 e2) h6 e1
    exact ⟨q', v', _, e2, hq', q, v, _, by rw [eff_set h3]; exact e1'', hq, by rw [← setO_comm h2]; exact hk⟩
  rotate_right
  · unfold twoObjs at h45
    split at h45
    · rename_i a b ha hb
      have hab : a ≠ b := by simpa using h45
      obtain ⟨u, rfl, k1⟩ := eff_local hl ha e1
      obtain ⟨u', rfl, k2⟩ := eff_local hl hb e2
      have e2' := k2 H (appO_at hab).symm
      have e1' := k1 (appO b u' H) (appO_at (Ne.symm hab))
      exact ⟨q', v', _, e2', hq', q, v, _, by rw [eff_set h3]; exact e1', hq, by rw [← setO_comm h2, appO_comm (Ne.symm hab)]; exact hk⟩
    · cases h45
  rcases h4 with h4 | h4
  · have := eff_keeps h4 e1; subst this
    rcases h5 with h5 | h5
    · have := eff_keeps h5 e2; subst this
      exact ⟨q', v', _, e2, hq', q, v, _, by rw [eff_set h3]; exact e1, hq, by rw [← setO_comm h2]; exact hk⟩
    · rw [eff_blind h5] at e1
      cases h : eff E ops oi T [] with
      | none => rw [h] at e1; cases e1
      | some x =>
        rw [h] at e1
        simp only [Option.map_some, Option.some.injEq, Prod.mk.injEq, and_true] at e1
        obtain ⟨rfl, rfl⟩ := e1
        exact ⟨q', v', _, e2, hq', x.1, x.2.1, H2, by rw [eff_set h3, eff_blind h5, h]; rfl, hq, by rw [← setO_comm h2]; exact hk⟩
  · rw [eff_blind h4] at e2
    cases h : eff E ops oj T [] with
    | none => rw [h] at e2; cases e2
    | some x =>
      rw [h] at e2
      simp only [Option.map_some, Option.some.injEq, Prod.mk.injEq] at e2
      obtain ⟨rfl, rfl, rfl⟩ := e2
      exact ⟨x.1, x.2.1, H, by rw [eff_blind h4, h]; rfl, hq', q, v, _, by rw [eff_set h3]; exact e1, hq, by rw [← setO_comm h2]; exact hk⟩

def anyS (E : Env) (ops : Array Oper) (go : List AV → Heap → Prop) : Nat → Array Bool → List AV → Heap → Prop
  | 0, listed, T, H => Region.ready .any ops listed = [] ∧ go T H
  | fuel + 1, listed, T, H => (Region.ready .any ops listed = [] → go T H) ∧ ∀ i ∈ Region.ready .any ops listed, sOp E ops i (anyS E ops go fuel (listed.setIfInBounds i true)) T H

/-- Each of D waits for the i-th or for another of D. -/
def Waits (ops : Array Oper) (i : Nat) (D : List Nat) : Prop := ∀ j ∈ D, ∃ oj, ops[j]? = some oj ∧ ∃ e ∈ oj.after, Region.binds .any e = true ∧ (e.on = i ∨ e.on ∈ D)

theorem depsFrom_waits {i : Nat} : ∀ (js acc : List Nat), Waits ops i acc → Waits ops i (depsFrom ops i js acc)
  | [], _, h => h
  | j :: js, acc, h => by
    simp only [depsFrom]
    refine depsFrom_waits js _ ?_
    split
    · rename_i oj hoj
      split
      · rename_i hc
        rw [Array.any_eq_true'] at hc
        obtain ⟨e, he, hb⟩ := hc
        simp only [Bool.and_eq_true, Bool.or_eq_true, beq_iff_eq, List.contains_iff_mem] at hb
        intro k hk
        rcases List.mem_cons.1 hk with rfl | hk
        · exact ⟨oj, hoj, e, he, hb.1, hb.2.imp id (List.mem_cons_of_mem _)⟩
        · obtain ⟨ok, h1, e', h2, h3, h4⟩ := h k hk
          exact ⟨ok, h1, e', h2, h3, h4.imp id (List.mem_cons_of_mem _)⟩
      · exact h
    · exact h

theorem anyS_first {T0 : List AV} {go : List AV → Heap → Prop} {i : Nat} {oi : Oper} {D : List Nat} (hi : ops[i]? = some oi) (hD : Waits ops i D) : ∀ (fuel : Nat) (listed : Array Bool) (T : List AV) (H : Heap), Like ops T0 T →
    (∀ j ∈ D, listed.getD j true = false) →
    (∀ j oj, ops[j]? = some oj → j ≠ i → listed.getD j true = false → j ∉ D → apartS E T0 ops oi oj = true) →
    i ∈ Region.ready .any ops listed → sOp E ops i (anyS E ops go fuel (listed.setIfInBounds i true)) T H → anyS E ops go (fuel + 1) listed T H := by
  intro fuel
  induction fuel with
  | zero =>
    intro listed T H _ _ _ hr k
    refine ⟨fun h => (by rw [h] at hr; cases hr), fun j hj => ?_⟩
    by_cases hji : j = i
    · subst hji; exact k
    · have := ready_mono hj hji
      simp only [sOp, hi] at k
      obtain ⟨_, _, _, _, _, hn, _⟩ := k
      rw [hn] at this
      cases this
  | succ fuel ih =>
    intro listed T H hlk hun hfree hr k
    refine ⟨fun h => (by rw [h] at hr; cases hr), fun j hj => ?_⟩
    by_cases hji : j = i
    · subst hji; exact k
    · obtain ⟨hjun, oj, hoj, hall⟩ := mem_ready.1 hj
      have notyet : ∀ m, listed.getD m true = false → listed.getD m false = true → False := fun m h0 h1 => by
        rcases Nat.lt_or_ge m listed.size with h' | h'
        · simp [h'] at h0 h1; rw [h0] at h1; cases h1
        · simp [Array.getElem?_eq_none h'] at h1
      have hnD : j ∉ D := fun hjD => by
        obtain ⟨oj', h1, e, he, hb, hon⟩ := hD j hjD
        rw [hoj] at h1; cases h1
        have h1 := hall e he hb
        rcases hon with hon | hon
        · rw [hon] at h1; exact notyet i (mem_ready.1 hr).1 h1
        · exact notyet _ (hun _ hon) h1
      have k1 : sOp E ops i (sOp E ops j (anyS E ops go fuel ((listed.setIfInBounds i true).setIfInBounds j true))) T H :=
        sOp_mono (fun T H h => h.2 j (ready_mono hj hji)) k
      have k2 := sOp_swap hi hoj (hfree j oj hoj hji hjun hnD) hlk k1
      have hun' : ∀ m ∈ D, (listed.setIfInBounds j true).getD m true = false := fun m hm => by
        have hjm : j ≠ m := fun e => hnD (by rw [e]; exact hm)
        rw [getD_set_ne true hjm]; exact hun m hm
      have hfree' : ∀ k ok, ops[k]? = some ok → k ≠ i → (listed.setIfInBounds j true).getD k true = false →
          k ∉ D → apartS E T0 ops oi ok = true := fun k ok hk hki hun hno => by
        refine hfree k ok hk hki ?_ hno
        by_cases hjk : j = k
        · subst hjk; exact hjun
        · rw [getD_set_ne true hjk] at hun; exact hun
      refine sOp_monoL hlk (fun T H hlk h3 => ih (listed.setIfInBounds j true) T H hlk hun' hfree' (ready_mono hr (Ne.symm hji)) ?_) k2
      rw [Array.setIfInBounds_comm _ _ hji]
      exact h3

def lexS (E : Env) (ops : Array Oper) (go : List AV → Heap → Prop) : List Oper → List AV → Heap → Prop
  | [], T, H => go T H
  | o :: l, T, H => ∃ q v H', eff E ops o T H = some (q, v, H') ∧ holds q ∧ lexS E ops go l (setO T o.dst v) H'

theorem set_self {t : Nat} {b : Bool} (h : T[t]? = some (.bool b)) : T.set t (.bool b) = T := by
  apply List.ext_getElem?
  intro i
  rw [List.getElem?_set]
  split
  · rename_i e; subst e
    split
    · exact h.symm
    · rename_i hlt; rw [List.getElem?_eq_none (by omega)]
  · rfl

theorem isApp_rows {o : Op} (h : isApp E T o = true) : E.rows = false := by
  unfold isApp at h
  split at h
  · split at h
    · simpa using h
    · cases h
  · cases h

theorem appDD_ok (hrows : E.rows = false) {o : Oper} {go : AV → Heap → Prop} (h : appDD E T H o go) : ∃ q v H', fexec E T H o = some (q, v, H') ∧ holds q ∧ go v H' := by
  unfold appDD at h
  split at h
  · rename_i args ts hop
    split at h
    · rename_i t1 t2 s x hts hargs
      split at h
      · rename_i ht; subst ht
        split at h
        case h_2 => cases h
        rename_i d hd
        split at h
        case h_2 => cases h
        rename_i e de he
        split at h
        case h_2 => cases h
        rename_i c hsl hc
        split at h
        case isFalse => cases h
        rename_i hcond
        split at h
        case h_2 => cases h
        rename_i q ys happ
        split at h
        case h_2 => cases h
        obtain ⟨hq, h⟩ := obl_ok h
        have hf : fexec E T H o = appD E H t1 (.raw (.slice none 0 0)) x := by
          rw [fexec_not (by rw [hop]; rfl)]
          unfold fexec0
          rw [hop]
          simp only [hts, hargs, if_true, hrows, Bool.false_eq_true, if_false]
        cases ys with
        | nil => exact ⟨q, _, H, by rw [hf]; simp only [appD, hd, he, hsl, hc, if_pos hcond, happ], hq, h⟩
        | cons y ys =>
          have hc0 : ieq (((y :: ys).length : Nat) : Int) 0 = false := by
            have hne : ¬ ((((y :: ys).length : Nat) : Int) = 0) := by simp; omega
            simp only [ieq, beq_eq_false_iff_ne, ne_eq, hne, not_false_eq_true]
          rw [hc0] at h
          obtain ⟨⟨h1, h2, _⟩, h3⟩ := obl_ok (qs := [_, _]) h
          exact ⟨_, _, _, by rw [hf]; simp only [appD, hd, he, hsl, hc, if_pos hcond, happ]; rfl, by rw [holds_app]; exact ⟨hq, h1, h2, trivial⟩, h3⟩
      · cases h
    · cases h
  · cases h

theorem lexS_of_draw {go : List AV → Heap → Prop} : ∀ (l : List Oper) (T : List AV) (H : Heap), drawA E ops.toList l T H go → lexS E ops go l T H
  | [], _, _, h => h
  | o :: l, T, H, h => by
    unfold drawA at h
    simp only [lexS, eff]
    split at h
    · rename_i hg
      split at h
      · rename_i hlk
        obtain ⟨v, h1, h2⟩ := lookD_ok h
        have hf : fexec E T H o = some ([], v, H) := by
          cases hop : o.op <;> rw [hop] at hlk <;> first | (cases hlk; done) | skip
          rw [fexec_not (by rw [hop]; rfl)]
          unfold fexec0
          rw [hop]
          exact h1
        exact ⟨[], v, H, by simp only [hg]; exact hf, trivial, lexS_of_draw l _ _ h2⟩
      split at h
      · rename_i hia
        obtain ⟨q, v, H', h1, h2, h3⟩ := appDD_ok (isApp_rows hia) h
        exact ⟨q, v, H', by simp only [hg]; exact h1, h2, lexS_of_draw l _ _ h3⟩
      split at h
      · rename_i q v H' hx
        obtain ⟨hq, h⟩ := obl_ok h
        exact ⟨q, v, H', by simp only [hg]; exact hx, hq, lexS_of_draw l _ _ h⟩
      · cases h
    · rename_i j want hg
      split at h
      · rename_i t ht
        have ht' : (ops[j]?).bind (·.dst) = some t := by simpa using ht
        split at h
        · rename_i b hb
          simp only [hg, ht', hb]
          by_cases hbw : b = want
          · subst hbw
            simp only [beq_self_eq_true, cond_true, set_self hb] at h
            split at h
            · rename_i q v H' hx
              obtain ⟨hq, h⟩ := obl_ok h
              exact ⟨q, v, H', by rw [if_pos rfl]; exact hx, hq, lexS_of_draw l _ _ h⟩
            · cases h
          · have hb2 : b = !want := by cases b <;> cases want <;> simp_all
            have hb3 : (b == want) = false := by simp [hbw]
            rw [hb3] at h
            simp only [cond_false] at h
            rw [← hb2, set_self hb] at h
            exact ⟨[], .undef, H, by rw [if_neg hbw], trivial, lexS_of_draw l _ _ h⟩
        · rename_i vs hb
          exact ⟨[], .undef, H, by simp only [hg, ht', hb], trivial, lexS_of_draw l _ _ h⟩
        · cases h
      · cases h

theorem freeS_spec {T0 : List AV} {listed : Array Bool} {i : Nat} {oi : Oper} (hi : ops[i]? = some oi) (h : freeS E T0 ops listed i = true) :
    (∀ j ∈ deps ops i, listed.getD j true = false) ∧ ∀ j oj, ops[j]? = some oj → j ≠ i → listed.getD j true = false → j ∉ deps ops i → apartS E T0 ops oi oj = true := by
  unfold freeS freeWith at h
  rw [hi] at h
  simp only [Bool.and_eq_true, List.all_eq_true, List.mem_range, Bool.not_eq_true'] at h
  refine ⟨h.1, fun j oj hj hji hl hno => ?_⟩
  have hlt : j < ops.size := by
    rcases Nat.lt_or_ge j ops.size with h' | h'
    · exact h'
    · rw [Array.getElem?_eq_none h'] at hj; cases hj
  have := h.2 j hlt
  simp only [hj, hl, Bool.or_false, Bool.or_eq_true, beq_iff_eq, hji, false_or, List.contains_iff_mem] at this
  exact this.resolve_left hno

theorem anyS_lex {T0 : List AV} {go : List AV → Heap → Prop} : ∀ (l : List Oper) (k : Nat) (listed : Array Bool) (T : List AV) (H : Heap), Like ops T0 T → (∀ j, l[j]? = ops[k + j]?) →
    lexFromS E T0 ops l.length k listed = true → lexS E ops go l T H → anyS E ops go l.length listed T H
  | [], k, listed, T, H, _, _, hB, h => ⟨by simpa [lexFromS] using hB, h⟩
  | o :: l, k, listed, T, H, hlk, hl, hB, h => by
    have h0 : ops[k]? = some o := by simpa using (hl 0).symm
    simp only [List.length_cons, lexFromS, Bool.and_eq_true] at hB
    obtain ⟨⟨hr, hf⟩, hB'⟩ := hB
    refine anyS_first h0 (depsFrom_waits _ _ (by intro j hj; cases hj)) l.length listed T H hlk (freeS_spec h0 hf).1 (freeS_spec h0 hf).2 (by simpa using hr) ?_
    simp only [sOp, h0]
    obtain ⟨q, v, H', e, hq, hk⟩ := h
    exact ⟨q, v, H', e, hq, anyS_lex l (k + 1) _ _ _ (hlk.set h0 e) (fun j => by have := hl (j + 1); simpa [Nat.add_assoc, Nat.add_comm 1 j] using this) hB' hk⟩

theorem drawA_one {go : List AV → Heap → Prop} {i : Nat} {o : Oper} (hi : ops[i]? = some o) (h : drawA E ops.toList [o] T H go) : sOp E ops i go T H := by
  have := lexS_of_draw (ops := ops) [o] T H h
  simp only [sOp, hi]
  exact this

theorem sch_any {T0 : List AV} {go : List AV → Heap → Prop} : ∀ (s : Sch) (fuel : Nat) (listed : Array Bool) (T : List AV) (H : Heap), Like ops T0 T → schA E T0 ops go s fuel listed T H → anyS E ops go fuel listed T H
  | .fin, fuel, listed, T, H, _, h => by
    simp only [schA] at h
    split at h
    · rename_i he
      have he : Region.ready .any ops listed = [] := by simpa using he
      cases fuel with
      | zero => exact ⟨he, h⟩
      | succ fuel => exact ⟨fun _ => h, fun i hi => by rw [he] at hi; cases hi⟩
    · exact h.elim
  | .one k s, 0, _, _, _, _, h => by simp [schA] at h
  | .one k s, fuel + 1, listed, T, H, hl, h => by
    simp only [schA] at h
    split at h
    · rename_i o hk
      split at h
      · rename_i hc
        simp only [Bool.and_eq_true] at hc
        refine anyS_first hk (depsFrom_waits _ _ (by intro j hj; cases hj)) fuel listed T H hl (freeS_spec hk hc.2).1 (freeS_spec hk hc.2).2 (by simpa using hc.1) ?_
        exact sOp_monoL hl (fun T H hl' h => sch_any s fuel _ T H hl' h) (drawA_one hk h)
      · exact h.elim
    · exact h.elim
  | .two j k s s', 0, _, _, _, _, h => by simp [schA] at h
  | .two j k s s', fuel + 1, listed, T, H, hl, h => by
    simp only [schA] at h
    split at h
    · rename_i o o' hj hk
      split at h
      · rename_i hc
        have hc : Region.ready .any ops listed = [j, k] := by simpa using hc
        refine ⟨fun h0 => (by rw [hc] at h0; cases h0), fun i hi => ?_⟩
        rw [hc] at hi
        simp only [List.mem_cons, List.not_mem_nil, or_false] at hi
        rcases hi with rfl | rfl
        · exact sOp_monoL hl (fun T H hl' h => sch_any s fuel _ T H hl' h) (drawA_one hj h.1)
        · exact sOp_monoL hl (fun T H hl' h => sch_any s' fuel _ T H hl' h) (drawA_one hk h.2)
      · exact h.elim
    · exact h.elim

/-! ### Back to the model -/
theorem fexec0_ok (hV : E.Valid) (hS : ∀ f sp, E.spec f = some sp → SpecOk E f sp) {o : Oper} {q : List Prop} {v : AV} {H' : Heap} {k : FK} {n : Nat} (h : fexec0 E T H o = some (q, v, H')) (hq : holds q) (r : ARel E ι T H a w)
    {next : Act → World → Prop} {Q' : Exit → Act → World → Prop} (hn : ∀ ι' w' c, Ext ι ι' → HRel ι' H' w' → RepV ι' v c → next (a.put o.dst c) w') : o.wpIn (fenceOf ι k) n E.P a w next Q' := by
  unfold fexec0 at h
  split at h
  · rename_i f args ts hop
    split at h
    · rename_i g caps vs hf ha
      obtain ⟨l, hfe, hall⟩ := evs_fn r hf ha
      have hrun : (o.semAt (fenceOf ι k).round a.eval).run E.P w = (callFunc g (args.toList.map a.eval ++ l).toArray).run E.P w := by
        rw [semAt_call hop]; exact call_run hop hfe
      split at h
      · rename_i sp hsp
        split at h
        · rename_i hfl
          split at h
          · rename_i q1 us hv
            split at h
            · rename_i x hx
              simp only [Option.some.injEq, Prod.mk.injEq] at h; obtain ⟨rfl, rfl, rfl⟩ := h
              rw [holds_app] at hq
              obtain ⟨hq, hp, _⟩ := hq
              refine upon_callOk (R := fun c w' => ∃ ι', Ext ι ι' ∧ HRel ι' H w' ∧ RepV ι' (resV sp.n sp.cod (sp.f x)) c) rfl ?_ hrun ?_
              · simp only [Bool.or_eq_true] at hfl
                rcases hfl with hfl | hfl
                · exact spec_flat (hS _ _ hsp) hfl hv hq hx hp r.heap r.glob hall
                · exact spec_full (hS _ _ hsp) (H' := H) (frozen_freeze hfl) hv hq hx hp r.heap r.glob hall
              · rintro c w' ⟨ι', hE, hH, hr⟩
                exact hn _ _ _ hE hH hr
            · cases h
          · cases h
        · cases h
      · cases h
    · cases h
  · rename_i args ts hop
    split at h
    · rename_i t1 t2 s x hts hargs
      split at h
      · rename_i ht; subst ht
        obtain ⟨cs, hrunb⟩ := builtin_run (E := E) (a := a) (w := w) hop
        have hl := evs_ok hargs r
        obtain ⟨us, _, e1, hs, hl⟩ := hl.cons_inv
        obtain ⟨ux, _, e2, hx, hl⟩ := hl.cons_inv
        cases hl
        have hmap : args.map a.eval = #[us, ux] := by
          have : args.map a.eval = (args.toList.map a.eval).toArray := Array.ext' (by simp)
          rw [this, e1, e2]
        have htse : ts = #[t1, t1] := by cases ts; simpa using hts
        have key : ∃ ι' w' u, (Builtin.append_ #[t1, t1] o.type #[us, ux]).run E.P w = .ok u w' ∧ Ext ι ι' ∧ HRel ι' H' w' ∧ RepV ι' v u := by
          split at h
          · exact appR_ok (ty := o.type) hV h hq r.heap hs hx
          · exact appD_ok (ty := o.type) hV h hq r.heap hs hx
        obtain ⟨ι', w', u, hrun, hE, hH, hr⟩ := key
        refine ⟨fun g _ => fence_fn _ g, ?_⟩
        rw [semAt_call hop, hrunb, hmap, htse]
        simp only [builtin, Sem.run_bind, hrun, Result.andThen, Sem.run_pure]
        exact hn _ _ _ hE hH hr
      · cases h
    · cases h
  · obtain ⟨H1, h1, h2⟩ := cold_some h
    obtain ⟨ι', w', c, hE, hH, hr, hrun⟩ := aop_ok hV h1 hq r
    have key : ∃ ι2, Ext ι' ι2 ∧ HRel ι2 H' w' := by
      rcases h2 with rfl | h2
      · exact ⟨ι', Ext.refl _, hH⟩
      · obtain ⟨ι2, e1, e2, _⟩ := freezeA_ok _ h2 hH
        exact ⟨ι2, e1, e2⟩
    obtain ⟨ι2, e1, e2⟩ := key
    refine ⟨fun g _ => fence_fn _ g, ?_⟩
    rw [Oper.semAt_eq _ _ _ (aop_noDefer h1)]
    rcases hrun with hrun | ⟨hrun, rfl⟩
    · rw [hrun]; exact hn _ _ _ (hE.trans e1) e2 (RepV_mono e1 hr)
    · rw [hrun]; exact hn _ _ _ (hE.trans e1) e2 (RepV_mono e1 hr)
  · obtain ⟨ι', w', c, hE, hH, hr, hrun⟩ := aop_ok hV h hq r
    refine ⟨fun g _ => fence_fn _ g, ?_⟩
    rw [Oper.semAt_eq _ _ _ (aop_noDefer h)]
    rcases hrun with hrun | ⟨hrun, rfl⟩
    · rw [hrun]; exact hn _ _ _ hE hH hr
    · rw [hrun]; exact hn _ _ _ hE hH hr

theorem fexec_ok (hV : E.Valid) (hS : ∀ f sp, E.spec f = some sp → SpecOk E f sp) {o : Oper} {q : List Prop} {v : AV} {H' : Heap} {k : FK} {n : Nat} (h : fexec E T H o = some (q, v, H')) (hq : holds q) (r : ARel E ι T H a w)
    {next : Act → World → Prop} {Q' : Exit → Act → World → Prop} (hn : ∀ ι' w' c, Ext ι ι' → HRel ι' H' w' → RepV ι' v c → next (a.put o.dst c) w') : o.wpIn (fenceOf ι k) n E.P a w next Q' := by
  unfold fexec at h
  split at h
  · unfold fexecO at h
    split at h
    · rename_i f args ts hop
      split at h
      · rename_i g caps vs hf ha
        obtain ⟨l, hfe, hall⟩ := evs_fn r hf ha
        have hrun : (o.semAt (fenceOf ι k).round a.eval).run E.P w = (callFunc g (args.toList.map a.eval ++ l).toArray).run E.P w := by
          rw [semAt_call hop]; exact call_run hop hfe
        split at h
        · rename_i sp hsp
          split at h
          · rename_i e ho
            split at h
            · rename_i hfl
              split at h
              · rename_i q1 us hv
                split at h
                · rename_i x hx
                  split at h
                  · rename_i v1 ob hown
                    simp only [Option.some.injEq, Prod.mk.injEq] at h; obtain ⟨rfl, rfl, rfl⟩ := h
                    rw [holds_app] at hq
                    obtain ⟨hq, hp, _⟩ := hq
                    simp only [List.isEmpty_iff] at hfl
                    refine upon_callOk rfl (spec_own (hS _ _ hsp) ho (H' := H) (by rw [hfl]; rfl) hv hq hx hp hown r.heap r.glob hall) hrun ?_
                    rintro c w' ⟨ι', hE, hH, hr⟩
                    exact hn _ _ _ hE hH hr
                  · cases h
                · cases h
              · cases h
            · cases h
          · cases h
        · cases h
      · cases h
    · cases h
  · exact fexec0_ok hV hS h hq r hn
end Go.Eng
end
section
/- The evaluator is right: its step, its runs, contracts out of runs. -/
namespace Go.Eng
open Go.RowKit
variable {E : Env} {ι : Inst} {T : List AV} {H : Heap} {a : Act} {w : World} {ops : Array Oper}

theorem tup_undef (vs : List AV) {c : Value} (h : RepV ι (.tup vs) c) : ∃ l : List Value, c = .tuple l.toArray := by
  obtain ⟨l, e, _⟩ := h; exact ⟨l, e⟩

theorem any_ok (hV : E.Valid) (hS : ∀ f sp, E.spec f = some sp → SpecOk E f sp) {k : FK} {n : Nat} {D : List Nat} {go : List AV → Heap → Prop} {Q : Exit → Act → World → Prop} {ι0 : Inst} (hk : KOk ι0 k)
    (hgo : ∀ T H, go T H → ∀ ι a w, Ext ι0 ι → ARel E ι T H a w → DRel ι D a.defers → Q .normal a w) :
    ∀ (fuel : Nat) (listed : Array Bool) (T : List AV) (H : Heap) (ι : Inst) (a : Act) (w : World), Ext ι0 ι → ARel E ι T H a w → DRel ι D a.defers → anyS E ops go fuel listed T H →
      wpAnyIn (fenceOf ι0 k) n E.P .any ops Q fuel listed a w
  | 0, _, _, _, _, _, _, hE, r, hD, h => ⟨h.1, hgo _ _ h.2 _ _ _ hE r hD⟩
  | fuel + 1, listed, T, H, ι, a, w, hE, r, hD, h => by
    refine ⟨fun h0 => hgo _ _ (h.1 h0) _ _ _ hE r hD, fun i hi => ?_⟩
    have h1 := h.2 i hi
    unfold sOp at h1
    unfold wpOpIn
    have hf : fenceOf ι k = fenceOf ι0 k := fenceOf_ext hE hk
    have ih := any_ok hV hS (n := n) hk hgo fuel (listed.setIfInBounds i true)
    cases ho : ops[i]? with
    | none => rw [ho] at h1; exact ih T H ι a w hE r hD h1
    | some o =>
      rw [ho] at h1
      obtain ⟨q, v, H', he, hq, hK⟩ := h1
      have hnext : ∀ ι' w' c, Ext ι ι' → HRel ι' H' w' → RepV ι' v c → wpAnyIn (fenceOf ι0 k) n E.P .any ops Q fuel (listed.setIfInBounds i true) (a.put o.dst c) w' := fun ι' w' c hE' hH hc =>
        ih _ _ ι' _ _ (hE.trans hE') ⟨hH, put_rel (All2.imp (fun _ _ => RepV_mono hE') r.tmps) hc, r.glob.mono hE'⟩ (by rw [put_defers]; exact hD.mono hE') hK
      have hab : ∀ f, o.about E.P w a.eval = some f → (fenceOf ι0 k).fn f := fun f _ => fence_fn k f
      unfold eff at he
      split at he
      · rename_i hg
        dsimp only
        rw [if_pos (wanted_none hg), ← hf]
        rw [← hf] at hnext
        exact fexec_ok hV hS he hq r hnext
      · rename_i j want hg
        split at he
        · rename_i t ht
          have ht' : (ops.toList[j]?).bind (·.dst) = some t := by simpa using ht
          have hy : ∀ c, a.tmps.toList[t]? = some c → yielded ops a.tmps j = boolOf c := fun c hc => yielded_at (all := ops.toList) ht' hc
          split at he
          · rename_i b hb
            obtain ⟨c, hc, hr⟩ := r.tmps.at t _ hb
            have hyb := hy c hc
            rw [hr.bool] at hyb
            dsimp only [boolOf] at hyb ⊢
            split at he
            · rename_i hbw
              have hw : Region.wanted o (yielded ops a.tmps) = true := by simp [Region.wanted, hg, hyb, hbw]
              rw [if_pos hw, ← hf]
              rw [← hf] at hnext
              exact fexec_ok hV hS he hq r hnext
            · rename_i hbw
              have hw : ¬ Region.wanted o (yielded ops a.tmps) = true := by simp [Region.wanted, hg, hyb, hbw]
              simp only [Option.some.injEq, Prod.mk.injEq] at he; obtain ⟨rfl, rfl, rfl⟩ := he
              rw [if_neg hw]
              exact ⟨hab, hnext ι w undef (Ext.refl ι) r.heap RepV_undef⟩
          · rename_i vs hb
            obtain ⟨c, hc, hr⟩ := r.tmps.at t _ hb
            obtain ⟨l, rfl⟩ := tup_undef _ hr
            have hyb := hy _ hc
            dsimp only [boolOf] at hyb ⊢
            have hw : ¬ Region.wanted o (yielded ops a.tmps) = true := by simp [Region.wanted, hg, hyb]
            simp only [Option.some.injEq, Prod.mk.injEq] at he; obtain ⟨rfl, rfl, rfl⟩ := he
            rw [if_neg hw]
            exact ⟨hab, hnext ι w undef (Ext.refl ι) r.heap RepV_undef⟩
          · cases he
        · cases he

theorem region_ok (hV : E.Valid) (hS : ∀ f sp, E.spec f = some sp → SpecOk E f sp) {k : FK} {n : Nat} {D : List Nat} {go : List AV → Heap → Prop} {Q : Exit → Act → World → Prop} (hk : KOk ι k)
    (hgo : ∀ T H, go T H → ∀ ι' a w, Ext ι ι' → ARel E ι' T H a w → DRel ι' D a.defers → Q .normal a w) (r : ARel E ι T H a w) (hD : DRel ι D a.defers) {id : Nat} (hl : lexOK E T ops = true)
    (h : drawA E ops.toList ops.toList T H go) : (Code.region id ops true).wpIn (fenceOf ι k) n E.P Q a w := by
  simp only [lexOK, Bool.and_eq_true] at hl
  refine wpIn_region_any hV.mixed (any_ok hV hS hk hgo _ _ T H ι a _ (Ext.refl ι) ⟨r.heap.drew _, r.tmps, r.glob⟩ hD ?_)
  have := anyS_lex (ops := ops) (T0 := T) ops.toList 0 (Array.replicate ops.size false) T H (like_refl T) (by simp) (by simpa using hl.2) (lexS_of_draw _ _ _ h)
  simpa using this

theorem region_sch (hV : E.Valid) (hS : ∀ f sp, E.spec f = some sp → SpecOk E f sp) {k : FK} {n : Nat} {D : List Nat} {go : List AV → Heap → Prop} {Q : Exit → Act → World → Prop} (hk : KOk ι k)
    (hgo : ∀ T H, go T H → ∀ ι' a w, Ext ι ι' → ARel E ι' T H a w → DRel ι' D a.defers → Q .normal a w) (r : ARel E ι T H a w) (hD : DRel ι D a.defers) {id : Nat} {s : Sch}
    (h : schA E T ops go s ops.size (Array.replicate ops.size false) T H) : (Code.region id ops true).wpIn (fenceOf ι k) n E.P Q a w :=
  wpIn_region_any hV.mixed (any_ok hV hS hk hgo _ _ T H ι a _ (Ext.refl ι) ⟨r.heap.drew _, r.tmps, r.glob⟩ hD (sch_any s _ _ T H (like_refl T) h))

/-! ### A region whose last operation comes last in all orders -/
def Closed (ops : Array Oper) (listed : Array Bool) : Prop := ∀ j oj, ops[j]? = some oj → listed.getD j false = true → ∀ e ∈ oj.after, Region.binds .any e = true → listed.getD e.on false = true

theorem deps_unlisted {listed : Array Bool} {i : Nat} (hc : Closed ops listed) (hi : listed.getD i false = false) : ∀ (js acc : List Nat), (∀ d ∈ acc, listed.getD d false = false) → ∀ d ∈ depsFrom ops i js acc, listed.getD d false = false
  | [], _, h => h
  | j :: js, acc, h => by
    simp only [depsFrom]
    refine deps_unlisted hc hi js _ ?_
    split
    · rename_i oj hoj
      split
      · rename_i hcc
        rw [Array.any_eq_true'] at hcc
        obtain ⟨e, he, hb⟩ := hcc
        simp only [Bool.and_eq_true, Bool.or_eq_true, beq_iff_eq, List.contains_iff_mem] at hb
        intro k hk
        rcases List.mem_cons.1 hk with rfl | hk
        · cases hl : listed.getD k false with
          | false => rfl
          | true =>
            have := hc k oj hoj hl e he hb.1
            rcases hb.2 with h2 | h2
            · rw [h2, hi] at this; cases this
            · rw [h _ h2] at this; cases this
        · exact h k hk
      · exact h
    · exact h

theorem tail_others {listed : Array Bool} (hc : Closed ops listed) (ht : tailB ops = true) (hr : ops.size - 1 ∈ Region.ready .any ops listed) {j : Nat} (hj : j < ops.size) (hne : j ≠ ops.size - 1) : listed.getD j false = true := by
  cases hl : listed.getD j false with
  | true => rfl
  | false =>
    unfold tailB at ht
    rw [List.all_eq_true] at ht
    have h1 := ht j (List.mem_range.2 hj)
    simp only [Bool.and_eq_true, Bool.or_eq_true, beq_iff_eq, List.contains_iff_mem] at h1
    have hD := h1.1.resolve_left hne
    have h2 := deps_unlisted hc hl (List.range ops.size) [] (by intro d hd; cases hd)
    have h3 := depsFrom_waits (ops := ops) (i := j) (List.range ops.size) [] (by intro d hd; cases hd)
    obtain ⟨oL, ho, e, he, hb, hon⟩ := h3 _ hD
    obtain ⟨_, o', ho', hall⟩ := mem_ready.1 hr
    rw [ho] at ho'; cases ho'
    have h4 := hall e he hb
    rcases hon with h5 | h5
    · rw [h5, hl] at h4; cases h4
    · rw [h2 _ h5] at h4; cases h4

theorem tail_all {listed : Array Bool} (ht : tailB ops = true) (hs : listed.size = ops.size) (hr : Region.ready .any ops listed = []) : ∀ (m : Nat), m < ops.size → listed.getD m false = true := by
  intro m
  induction m using Nat.strongRecOn with
  | ind m ih =>
    intro hm
    cases hl : listed.getD m false with
    | true => rfl
    | false =>
      have : m ∈ Region.ready .any ops listed := by
        refine mem_ready.2 ⟨?_, ops[m], by simp [hm], fun e he hb => ?_⟩
        · have h' : m < listed.size := by omega
          simp [h'] at hl ⊢; exact hl
        · unfold tailB at ht
          rw [List.all_eq_true] at ht
          have h1 := ht m (List.mem_range.2 hm)
          simp only [Bool.and_eq_true] at h1
          have h2 := h1.2
          rw [Array.getElem?_eq_getElem hm] at h2
          simp only [Array.all_eq_true_iff_forall_mem, Bool.or_eq_true, Bool.not_eq_true', decide_eq_true_eq] at h2
          have h3 := (h2 e he).resolve_left (by rw [hb]; simp)
          exact ih _ h3 (by omega)
      rw [hr] at this; cases this

theorem ready_tail {listed : Array Bool} : Region.ready .any (tailOps ops) listed = Region.ready .any ops listed := by
  unfold tailOps
  split
  · rename_i o ho
    unfold Region.ready
    rw [Array.size_setIfInBounds]
    refine List.filter_congr fun i _ => ?_
    by_cases hi : ops.size - 1 = i
    · subst hi
      have hlt := (Array.getElem?_eq_some_iff.1 ho).1
      rw [Array.getElem?_setIfInBounds_self_of_lt hlt, ho]
      rfl
    · rw [Array.getElem?_setIfInBounds_ne hi]
  · rfl

theorem tail_ok (hV : E.Valid) (hS : ∀ f sp, E.spec f = some sp → SpecOk E f sp) {k : FK} {n : Nat} {D : List Nat} {go : List AV → Heap → Prop} {Q : Exit → Act → World → Prop} {ι0 : Inst} (hk : KOk ι0 k) {oL : Oper}
    (hL : ops[ops.size - 1]? = some oL) (hg : oL.guard = none) (ht : tailB ops = true)
    (hgo : ∀ T H, go T H → ∀ ι a w, Ext ι0 ι → ARel E ι T H a w → DRel ι D a.defers → oL.wpIn (fenceOf ι0 k) n E.P a w (fun a w => Q .normal a w) Q) :
    ∀ (fuel : Nat) (listed : Array Bool) (T : List AV) (H : Heap) (ι : Inst) (a : Act) (w : World), Closed ops listed → listed.size = ops.size → listed.getD (ops.size - 1) false = false → Ext ι0 ι → ARel E ι T H a w → DRel ι D a.defers →
      anyS E (tailOps ops) go fuel listed T H → wpAnyIn (fenceOf ι0 k) n E.P .any ops Q fuel listed a w
  | 0, listed, _, _, _, _, _, hc, hs, hun, hE, r, hD, h => by
    have h1 := h.1
    rw [ready_tail] at h1
    have := tail_all ht hs h1 (ops.size - 1) (Array.getElem?_eq_some_iff.1 hL).1
    rw [hun] at this; cases this
  | fuel + 1, listed, T, H, ι, a, w, hc, hs, hun, hE, r, hD, h => by
    have hlt := (Array.getElem?_eq_some_iff.1 hL).1
    refine ⟨fun h0 => ?_, fun i hi => ?_⟩
    · have := tail_all ht hs h0 (ops.size - 1) hlt
      rw [hun] at this; cases this
    have h1 := h.2 i (by rw [ready_tail]; exact hi)
    have htail : tailOps ops = ops.setIfInBounds (ops.size - 1) (noOper oL) := by unfold tailOps; rw [hL]
    unfold wpOpIn
    by_cases hiL : i = ops.size - 1
    · subst hiL
      have hnone : Region.ready .any ops (listed.setIfInBounds (ops.size - 1) true) = [] := by
        cases hrd : Region.ready .any ops (listed.setIfInBounds (ops.size - 1) true) with
        | nil => rfl
        | cons m ms =>
          have hm : m ∈ Region.ready .any ops (listed.setIfInBounds (ops.size - 1) true) := by rw [hrd]; exact List.mem_cons_self ..
          obtain ⟨h0, o', ho', _⟩ := mem_ready.1 hm
          have hml := (Array.getElem?_eq_some_iff.1 ho').1
          by_cases hmL : m = ops.size - 1
          · subst hmL
            simp [hs, hml] at h0
          · have := tail_others hc ht hi hml hmL
            rw [getD_set_ne true (Ne.symm hmL)] at h0
            have h' : m < listed.size := by omega
            simp [h'] at h0 this
            rw [this] at h0; cases h0
      unfold sOp at h1
      rw [htail, Array.getElem?_setIfInBounds_self_of_lt hlt] at h1
      obtain ⟨q, v, H', he, _, hK⟩ := h1
      have hno : eff E (ops.setIfInBounds (ops.size - 1) (noOper oL)) (noOper oL) T H = some ([], .bool false, H) := rfl
      rw [hno] at he
      simp only [Option.some.injEq, Prod.mk.injEq] at he
      obtain ⟨_, _, rfl⟩ := he
      have hgoT : go T H := by
        have hK : anyS E (ops.setIfInBounds (ops.size - 1) (noOper oL)) go fuel (listed.setIfInBounds (ops.size - 1) true) T H := hK
        rw [← htail] at hK
        cases fuel with
        | zero => exact hK.2
        | succ fuel => exact hK.1 (by rw [ready_tail]; exact hnone)
      rw [hL]
      dsimp only
      rw [if_pos (wanted_none hg)]
      refine Oper.wpIn_mono (fun a w hq => ?_) (hgo T H hgoT ι a w hE r hD)
      cases fuel with
      | zero => exact ⟨hnone, hq⟩
      | succ fuel => exact ⟨fun _ => hq, fun i hi => by rw [hnone] at hi; cases hi⟩
    · have hci : Closed ops (listed.setIfInBounds i true) := by
        intro j oj hj hl e he hb
        by_cases hij : i = j
        · subst hij
          obtain ⟨_, o', ho', hall⟩ := mem_ready.1 hi
          rw [hj] at ho'; cases ho'
          exact getD_set_true (hall e he hb)
        · rw [getD_set_ne false hij] at hl
          exact getD_set_true (hc j oj hj hl e he hb)
      have hsi : (listed.setIfInBounds i true).size = ops.size := by rw [Array.size_setIfInBounds]; exact hs
      have huni : (listed.setIfInBounds i true).getD (ops.size - 1) false = false := by rw [getD_set_ne false hiL]; exact hun
      unfold sOp at h1
      have hf : fenceOf ι k = fenceOf ι0 k := fenceOf_ext hE hk
      have ih := tail_ok hV hS (n := n) hk hL hg ht hgo fuel (listed.setIfInBounds i true)
      have hget : ∀ j, j ≠ ops.size - 1 → (tailOps ops)[j]? = ops[j]? := fun j hj => by rw [htail, Array.getElem?_setIfInBounds_ne (Ne.symm hj)]
      rw [hget i hiL] at h1
      cases ho : ops[i]? with
      | none => rw [ho] at h1; exact ih T H ι a w hci hsi huni hE r hD h1
      | some o =>
        rw [ho] at h1
        obtain ⟨q, v, H', he, hq, hK⟩ := h1
        have hnext : ∀ ι' w' c, Ext ι ι' → HRel ι' H' w' → RepV ι' v c → wpAnyIn (fenceOf ι0 k) n E.P .any ops Q fuel (listed.setIfInBounds i true) (a.put o.dst c) w' := fun ι' w' c hE' hH hc' =>
          ih _ _ ι' _ _ hci hsi huni (hE.trans hE') ⟨hH, put_rel (All2.imp (fun _ _ => RepV_mono hE') r.tmps) hc', r.glob.mono hE'⟩ (by rw [put_defers]; exact hD.mono hE') hK
        have hab : ∀ f, o.about E.P w a.eval = some f → (fenceOf ι0 k).fn f := fun f _ => fence_fn k f
        unfold eff at he
        split at he
        · rename_i hg
          dsimp only
          rw [if_pos (wanted_none hg), ← hf]
          rw [← hf] at hnext
          exact fexec_ok hV hS he hq r hnext
        · rename_i j want hg
          split at he
          · rename_i t ht0
            have hjL : j ≠ ops.size - 1 := by
              intro e; subst e
              rw [htail, Array.getElem?_setIfInBounds_self_of_lt hlt] at ht0
              cases ht0
            rw [hget j hjL] at ht0
            have ht' : (ops.toList[j]?).bind (·.dst) = some t := by simpa using ht0
            have hy : ∀ c, a.tmps.toList[t]? = some c → yielded ops a.tmps j = boolOf c := fun c hc => yielded_at (all := ops.toList) ht' hc
            split at he
            · rename_i b hb
              obtain ⟨c, hc, hr⟩ := r.tmps.at t _ hb
              have hyb := hy c hc
              rw [hr.bool] at hyb
              dsimp only [boolOf] at hyb ⊢
              split at he
              · rename_i hbw
                have hw : Region.wanted o (yielded ops a.tmps) = true := by simp [Region.wanted, hg, hyb, hbw]
                rw [if_pos hw, ← hf]
                rw [← hf] at hnext
                exact fexec_ok hV hS he hq r hnext
              · rename_i hbw
                have hw : ¬ Region.wanted o (yielded ops a.tmps) = true := by simp [Region.wanted, hg, hyb, hbw]
                simp only [Option.some.injEq, Prod.mk.injEq] at he; obtain ⟨rfl, rfl, rfl⟩ := he
                rw [if_neg hw]
                exact ⟨hab, hnext ι w undef (Ext.refl ι) r.heap RepV_undef⟩
            · rename_i vs hb
              obtain ⟨c, hc, hr⟩ := r.tmps.at t _ hb
              obtain ⟨l, rfl⟩ := tup_undef _ hr
              have hyb := hy _ hc
              dsimp only [boolOf] at hyb ⊢
              have hw : ¬ Region.wanted o (yielded ops a.tmps) = true := by simp [Region.wanted, hg, hyb]
              simp only [Option.some.injEq, Prod.mk.injEq] at he; obtain ⟨rfl, rfl, rfl⟩ := he
              rw [if_neg hw]
              exact ⟨hab, hnext ι w undef (Ext.refl ι) r.heap RepV_undef⟩
            · cases he
          · cases he

theorem region_tail (hV : E.Valid) (hS : ∀ f sp, E.spec f = some sp → SpecOk E f sp) {k : FK} {n : Nat} {D : List Nat} {go : List AV → Heap → Prop} {Q : Exit → Act → World → Prop} (hk : KOk ι k) {oL : Oper}
    (hL : ops[ops.size - 1]? = some oL) (hg : oL.guard = none) (ht : tailB ops = true)
    (hgo : ∀ T H, go T H → ∀ ι' a w, Ext ι ι' → ARel E ι' T H a w → DRel ι' D a.defers → oL.wpIn (fenceOf ι k) n E.P a w (fun a w => Q .normal a w) Q) (r : ARel E ι T H a w) (hD : DRel ι D a.defers) {id : Nat} (hl : lexOK E T (tailOps ops) = true)
    (h : drawA E (tailOps ops).toList (tailOps ops).toList T H go) : (Code.region id ops true).wpIn (fenceOf ι k) n E.P Q a w := by
  simp only [lexOK, Bool.and_eq_true] at hl
  have hsz : (tailOps ops).size = ops.size := by unfold tailOps; rw [hL]; exact Array.size_setIfInBounds
  have hunl : ∀ j, (Array.replicate ops.size false).getD j false = false := fun j => by
    simp only [Array.getD_eq_getD_getElem?, Array.getElem?_replicate]
    split <;> rfl
  refine wpIn_region_any hV.mixed (tail_ok hV hS hk hL hg ht hgo _ _ T H ι a _ (fun j oj _ hl => by rw [hunl] at hl; cases hl) (by simp) (hunl _) (Ext.refl ι) ⟨r.heap.drew _, r.tmps, r.glob⟩ hD ?_)
  have := anyS_lex (ops := tailOps ops) (T0 := T) (tailOps ops).toList 0 (Array.replicate (tailOps ops).size false) T H (like_refl T) (by simp) (by simpa using hl.2) (lexS_of_draw _ _ _ h)
  simpa [hsz] using this

theorem condT_rel {c : Operand} {b b' : Bool} (hb : b = b') (r : ARel E ι T H a w) (hc : ev E T c = some (.bool b)) : ARel E ι (condT T c b') H a w := by
  cases c with
  | tmp t => exact ⟨r.heap, set_bool hb r.tmps hc, r.glob⟩
  | _ => exact r

/-! ### What is kept at a loop's head -/
def Inst.ren (ι : Inst) (l : List Nat) : Inst := { ι with blk := l.map fun o => (ι.blk[o]?).getD (0, 0) }

theorem posL_spec {o : Nat} : ∀ {l : List Nat} {i j : Nat}, posL l i o = some j → ∃ k, j = i + k ∧ l[k]? = some o
  | [], _, _, h => by cases h
  | x :: l, i, j, h => by
    simp only [posL] at h
    split at h
    · rename_i e
      cases h
      exact ⟨0, rfl, by simpa using e⟩
    · obtain ⟨k, e, h⟩ := posL_spec h
      exact ⟨k + 1, by omega, by simpa using h⟩

theorem pos_blk {l : List Nat} {o j : Nat} {x : Nat × Nat} (h : posL l 0 o = some j) (e : ι.blk[o]? = some x) : (ι.ren l).blk[j]? = some x := by
  obtain ⟨k, ek, h⟩ := posL_spec h
  have : j = k := by omega
  subst this
  simp [Inst.ren, h, e]

theorem fix_blk {l : List Nat} {o : Nat} {x : Nat × Nat} (h : fixB l o = true) (e : ι.blk[o]? = some x) : (ι.ren l).blk[o]? = some x := by
  unfold fixB at h
  split at h
  · rename_i j hj
    have : j = o := by simpa using h
    subst this
    exact pos_blk hj e
  · cases h

theorem RepD_ren (l : List Nat) : ∀ (c : TC) (x : c.den) (cs : List Value), RepD ι c x cs → RepD (ι.ren l) c x cs := fun c x cs k => RepD_data (ι := ι) (ι' := ι.ren l) c (.inr fun _ _ h => h) x cs k

mutual
theorem Rep_ren (l : List Nat) : ∀ (v u : AV) (cs : List Value), renV l v = some u → Rep ι v cs → Rep (ι.ren l) u cs
  | .int _ _, _, _, h, k => by cases h; rw [Rep] at *; exact k
  | .bool _, _, _, h, k => by cases h; rw [Rep] at *; exact k
  | .str _, _, _, h, k => by cases h; rw [Rep] at *; exact k
  | .raw _, _, _, h, k => by cases h; rw [Rep] at *; exact k
  | .agg ss vs, _, _, h, k => by
    simp only [renV] at h
    split at h
    · rename_i us hu; cases h; rw [Rep] at *; exact RepL_ren l ss vs us _ hu k
    · cases h
  | .arr n c xs, _, _, h, k => by cases h; rw [Rep] at *; exact RepD_ren l (.arr n c) xs _ k
  | .tup _, _, _, _, k => by rw [Rep] at k; exact k.elim
  | .any, _, _, _, k => by rw [Rep] at k; exact k.elim
  | .junk, _, _, h, k => by cases h; rw [Rep] at *; exact k
  | .ptr o p, _, _, h, k => by
    simp only [renV] at h
    split at h
    · rename_i j hj; cases h; rw [Rep] at *; obtain ⟨b, z, e, k⟩ := k; exact ⟨b, z, pos_blk hj e, k⟩
    · cases h
  | .ref v, _, _, h, k => by
    simp only [renV] at h
    split at h
    · rename_i u hu; cases h; rw [Rep] at *; obtain ⟨b, off, cells, t, fz, m, e1, e2, e3, e4⟩ := k
      exact ⟨b, off, cells, t, fz, m, e1, e2, Rep_ren l v u m hu e3, e4⟩
    · cases h
  | .fsl c xs, _, _, h, k => by cases h; rw [Rep] at *; exact RepD_ren l (.slice c) xs _ k
  | .osl o p s off len cap, _, _, h, k => by
    simp only [renV] at h
    split at h
    · rename_i j hj; cases h; rw [Rep] at *; obtain ⟨b, z, kk, e, k⟩ := k; exact ⟨b, z, kk, pos_blk hj e, k⟩
    · cases h
  | .fn f caps, _, _, h, k => by
    simp only [renV] at h
    split at h
    · rename_i us hu; cases h; rw [Rep] at *; obtain ⟨e, m, e2, k⟩ := k
      have hl := renVs_len l caps us hu
      refine ⟨renVs_agg l caps us hu e, m, e2, ?_⟩
      rw [hl]
      exact RepL_ren l _ caps us m hu k
    · cases h
  | .bnd f caps, _, _, h, k => by
    simp only [renV] at h
    split at h
    · rename_i us hu; cases h; rw [Rep] at *; obtain ⟨e, m, e2, k⟩ := k
      have hl := renVs_len l caps us hu
      refine ⟨renVs_agg l caps us hu e, m, e2, ?_⟩
      rw [hl]
      exact RepL_ren l _ caps us m hu k
    · cases h
  | .yld o, _, _, h, k => by
    simp only [renV] at h
    split at h
    · rename_i j hj; cases h; rw [Rep] at *; obtain ⟨b, z, e, k⟩ := k; exact ⟨b, z, pos_blk hj e, k⟩
    · cases h
  | .mp o, _, _, h, k => by
    simp only [renV] at h
    split at h
    · rename_i j hj; cases h; rw [Rep] at *; obtain ⟨b, z, e, k⟩ := k; exact ⟨b, z, pos_blk hj e, k⟩
    · cases h
  | .row o s n, _, _, h, k => by
    simp only [renV] at h
    split at h
    · rename_i j hj; cases h; rw [Rep] at *; obtain ⟨b, z, v, e, k⟩ := k; exact ⟨b, z, v, pos_blk hj e, k⟩
    · cases h
theorem RepL_ren (l : List Nat) : ∀ (ss : List Nat) (vs us : List AV) (cs : List Value), renVs l vs = some us → RepL ι ss vs cs → RepL (ι.ren l) ss us cs
  | _, [], _, _, h, k => by cases h; rw [RepL] at *; exact k
  | ss, v :: vs, _, cs, h, k => by
    simp only [renVs] at h
    split at h
    · rename_i u us h1 h2
      cases h
      rw [RepL] at *; obtain ⟨s, ss', m, m', e1, e2, e3, k1, k2⟩ := k
      exact ⟨s, ss', m, m', e1, e2, e3, Rep_ren l v u m h1 k1, RepL_ren l ss' vs us m' h2 k2⟩
    · cases h
theorem renVs_len (l : List Nat) : ∀ (vs us : List AV), renVs l vs = some us → us.length = vs.length
  | [], _, h => by cases h; rfl
  | v :: vs, _, h => by
    simp only [renVs] at h
    split at h
    · rename_i u us h1 h2; cases h; simp [renVs_len l vs us h2]
    · cases h
theorem renV_agg (l : List Nat) : ∀ (v u : AV), renV l v = some u → aggB u = aggB v
  | .agg ss vs, _, h => by simp only [renV] at h; split at h <;> cases h; rfl
  | .tup vs, _, h => by simp only [renV] at h; split at h <;> cases h; rfl
  | .ptr o p, _, h => by simp only [renV] at h; split at h <;> cases h; rfl
  | .osl o p s off len cap, _, h => by simp only [renV] at h; split at h <;> cases h; rfl
  | .fn f cs, _, h => by simp only [renV] at h; split at h <;> cases h; rfl
  | .bnd f cs, _, h => by simp only [renV] at h; split at h <;> cases h; rfl
  | .yld o, _, h => by simp only [renV] at h; split at h <;> cases h; rfl
  | .mp o, _, h => by simp only [renV] at h; split at h <;> cases h; rfl
  | .row o _ _, _, h => by simp only [renV] at h; split at h <;> cases h; rfl
  | .ref v, _, h => by simp only [renV] at h; split at h <;> cases h; rfl
  | .int _ _, _, h => by cases h; rfl
  | .bool _, _, h => by cases h; rfl
  | .str _, _, h => by cases h; rfl
  | .raw _, _, h => by cases h; rfl
  | .arr _ _ _, _, h => by cases h; rfl
  | .fsl _ _, _, h => by cases h; rfl
  | .any, _, h => by cases h; rfl
  | .junk, _, h => by cases h; rfl
theorem renVs_agg (l : List Nat) : ∀ (vs us : List AV), renVs l vs = some us → vs.all (fun v => !aggB v) = true → us.all (fun v => !aggB v) = true
  | [], _, h, _ => by cases h; rfl
  | v :: vs, _, h, k => by
    simp only [renVs] at h
    split at h
    · rename_i u us h1 h2; cases h
      simp only [List.all_cons, Bool.and_eq_true] at k ⊢
      exact ⟨by rw [renV_agg l v u h1]; exact k.1, renVs_agg l vs us h2 k.2⟩
    · cases h
end

theorem RepV0_ren {l : List Nat} {v u : AV} {c : Value} (h : renV l v = some u) (k : RepV0 ι v c) : RepV0 (ι.ren l) u c := by
  unfold RepV0 at *
  rw [renV_agg (ι := ι) l v u h]
  split
  · rename_i e; rw [if_pos e] at k; obtain ⟨cs, k, e⟩ := k; exact ⟨cs, Rep_ren l v u cs h k, e⟩
  · rename_i e; rw [if_neg e] at k; exact Rep_ren l v u [c] h k

theorem RepV0s_ren {l : List Nat} : ∀ {vs us : List AV} {cs : List Value}, renVs l vs = some us → All2 (RepV0 ι) vs cs → All2 (RepV0 (ι.ren l)) us cs
  | [], _, _, h, k => by cases h; cases k; exact .nil
  | v :: vs, _, _, h, k => by
    simp only [renVs] at h
    split at h
    · rename_i u us h1 h2
      cases h
      obtain ⟨c, cs, rfl, k1, k2⟩ := k.cons_inv
      exact .cons (RepV0_ren h1 k1) (RepV0s_ren h2 k2)
    · cases h

theorem RepV_ren {l : List Nat} {v u : AV} {c : Value} (h : renV l v = some u) (k : RepV ι v c) : RepV (ι.ren l) u c := by
  by_cases hn : ntB v = true
  · have h0 := RepV0_ren h ((RepV_iff hn).1 k)
    refine (RepV_iff ?_).2 h0
    cases v <;> simp only [renV] at h <;> (try (split at h)) <;> cases h <;> first | rfl | cases hn
  · cases v <;> first | exact absurd rfl hn | skip
    · rename_i vs
      simp only [renV] at h
      split at h
      · rename_i us hu
        cases h
        obtain ⟨m, e, k⟩ := k
        exact ⟨m, e, RepV0s_ren hu k⟩
      · cases h
    · cases h; trivial

theorem RepVs_ren {l : List Nat} : ∀ {vs us : List AV} {cs : List Value}, renVs l vs = some us → All2 (RepV ι) vs cs → All2 (RepV (ι.ren l)) us cs
  | [], _, _, h, k => by cases h; cases k; exact .nil
  | v :: vs, _, _, h, k => by
    simp only [renVs] at h
    split at h
    · rename_i u us h1 h2
      cases h
      obtain ⟨c, cs, rfl, k1, k2⟩ := k.cons_inv
      exact .cons (RepV_ren h1 k1) (RepVs_ren h2 k2)
    · cases h

theorem keepL_same : ∀ (ks : List Nat) (i : Nat) {T : List AV} {cs : List Value}, All2 (RepV ι) T cs → All2 (RepV ι) (keepL ks i T) cs
  | _, _, [], _, k => by cases k; simp only [keepL]; exact .nil
  | [], i, v :: T, _, k => by
    obtain ⟨c, cs, rfl, k1, k2⟩ := k.cons_inv
    simp only [keepL]
    exact .cons trivial (keepL_same [] (i + 1) k2)
  | kk :: ks, i, v :: T, _, k => by
    obtain ⟨c, cs, rfl, k1, k2⟩ := k.cons_inv
    unfold keepL
    split
    · exact .cons k1 (keepL_same ks (i + 1) k2)
    · exact .cons trivial (keepL_same (kk :: ks) (i + 1) k2)

theorem mask_rel {f : FuncId} {id : Nat} {cs : List Value} (h : All2 (RepV ι) T cs) : All2 (RepV ι) (maskT E f id T) cs := by
  unfold maskT
  split
  · exact keepL_same _ _ h
  · exact h

theorem mask_ok {Q : AV → Heap → Prop} {fr : Fr} {stk : List Fr} {f : FuncId} {id : Nat} (h : WW E Q { fr with T := maskT E f id fr.T } stk H) : WW E Q fr stk H :=
  fun n ι a w r hD hk => h n ι a w ⟨r.heap, mask_rel r.tmps, r.glob⟩ hD hk

theorem RepE_ren {l : List Nat} : ∀ {es fs : List (AV × AV)} {cs : List MapEntry}, renE l es = some fs → All2 (fun (e : AV × AV) (c : MapEntry) => RepV0 ι e.1 c.key ∧ RepV0 ι e.2 c.val) es cs →
    All2 (fun (e : AV × AV) (c : MapEntry) => RepV0 (ι.ren l) e.1 c.key ∧ RepV0 (ι.ren l) e.2 c.val) fs cs
  | [], _, _, h, k => by cases h; cases k; exact .nil
  | e :: es, _, _, h, k => by
    simp only [renE] at h
    split at h
    · rename_i a b r h1 h2 h3
      cases h
      obtain ⟨c, cs, rfl, k1, k2⟩ := k.cons_inv
      exact .cons ⟨RepV0_ren h1 k1.1, RepV0_ren h2 k1.2⟩ (RepE_ren h3 k2)
    · cases h

theorem cutO_rel {b z : Nat} {ks : List Nat} {x : AObj} (k : ObjRel ι w b z x) : ObjRel ι w b z (cutO ks x) := by
  cases x with
  | loop s pend fn T ps asg body dfr =>
    obtain ⟨tmps, db, dz, fn', e1, e2, e3⟩ := k
    exact ⟨tmps, db, dz, fn', e1, keepL_same ks 0 e2, e3⟩
  | _ => exact k

theorem renO_rel {l : List Nat} {b z : Nat} : ∀ {x y : AObj}, renO l x = some y → ObjRel ι w b z x → ObjRel (ι.ren l) w b z y
  | .dead, _, h, _ => by cases h; trivial
  | .cell own t v, _, h, k => by
    simp only [renO] at h
    split at h
    · rename_i u hu; cases h
      obtain ⟨cells, fz, m, r, e1, e2, e3, e4, e5⟩ := k
      exact ⟨cells, fz, m, r, e1, e2, e3, Rep_ren l v u m hu e4, e5⟩
    · cases h
  | .map es, _, h, k => by
    simp only [renO] at h
    split at h
    · rename_i r hr; cases h
      obtain ⟨ents, clock, e1, e2⟩ := k
      exact ⟨ents, clock, e1, RepE_ren hr e2⟩
    · cases h
  | .loop s pend fn T ps asg body dfr, _, h, k => by
    simp only [renO] at h
    split at h
    · rename_i T' j hT hj; cases h
      obtain ⟨tmps, db, dz, fn', e1, e2, e3⟩ := k
      exact ⟨tmps, db, dz, fn', e1, RepVs_ren hT e2, pos_blk hj e3⟩
    · cases h
  | .dfd, _, h, k => by cases h; exact k
  | .row t c xs, _, h, k => by
    cases h
    rcases k with k | ⟨cells, m, r, e1, e2, e3, e4⟩
    · exact .inl k
    · exact .inr ⟨cells, m, r, e1, e2, e3, e4.mono fun x m => RepD_ren l c x m⟩

theorem renO_owned {l : List Nat} {x y : AObj} (h : renO l x = some y) : y.owned = x.owned := by
  cases x <;> simp only [renO] at h <;> (try (split at h)) <;> cases h <;> rfl

theorem cutX_cases (g : Cut) (o : Nat) (x : AObj) : cutX g o x = .dead ∨ cutX g o x = x ∨ ∃ ks, cutX g o x = cutO ks x := by
  unfold cutX
  split
  · exact .inl rfl
  · split
    · exact .inr (.inr ⟨_, rfl⟩)
    · exact .inr (.inl rfl)

theorem cutH_at {g : Cut} {l : List Nat} : ∀ {os : List Nat} {H' : Heap} {i : Nat} {y : AObj}, cutH g l H os = some H' → H'[i]? = some y → ∃ o x, os[i]? = some o ∧ H[o]? = some x ∧ renO l (cutX g o x) = some y
  | [], _, _, _, h, e => by cases h; simp at e
  | o :: os, _, i, y, h, e => by
    simp only [cutH] at h
    split at h
    · rename_i x hx
      split at h
      · rename_i y' r h1 h2
        cases h
        cases i with
        | zero =>
          simp only [List.getElem?_cons_zero, Option.some.injEq] at e
          subst e
          exact ⟨o, x, rfl, hx, h1⟩
        | succ i =>
          obtain ⟨o', x', k1, k2, k3⟩ := cutH_at h2 (by simpa using e)
          exact ⟨o', x', by simpa using k1, k2, k3⟩
      · cases h
    · cases h

theorem cutH_len {g : Cut} {l : List Nat} : ∀ {os : List Nat} {H' : Heap}, cutH g l H os = some H' → H'.length = os.length
  | [], _, h => by cases h; rfl
  | o :: os, _, h => by
    simp only [cutH] at h
    split at h
    · split at h
      · rename_i y' r h1 h2; cases h; simp [cutH_len h2]
      · cases h
    · cases h

theorem nodup_inj : ∀ {l : List Nat} {i j o : Nat}, nodupB l = true → l[i]? = some o → l[j]? = some o → i = j
  | [], _, _, _, _, h, _ => by simp at h
  | x :: l, i, j, o, hn, h1, h2 => by
    simp only [nodupB, Bool.and_eq_true, Bool.not_eq_true'] at hn
    have hx : ∀ k : Nat, l[k]? = some x → False := fun k e => by
      have : l.contains x = true := by simpa using List.mem_of_getElem? e
      rw [hn.1] at this; cases this
    cases i with
    | zero =>
      simp only [List.getElem?_cons_zero, Option.some.injEq] at h1
      subst h1
      cases j with
      | zero => rfl
      | succ j => exact (hx j (by simpa using h2)).elim
    | succ i =>
      cases j with
      | zero =>
        simp only [List.getElem?_cons_zero, Option.some.injEq] at h2
        subst h2
        exact (hx i (by simpa using h1)).elim
      | succ j => rw [nodup_inj (i := i) (j := j) (o := o) hn.2 (by simpa using h1) (by simpa using h2)]

theorem first_at : ∀ {n i k : Nat} {l : List Nat}, firstB n i l = true → k < n → l[k]? = some (i + k)
  | 0, _, _, _, _, h => by omega
  | n + 1, i, k, [], h, _ => by cases h
  | n + 1, i, k, x :: l, h, hk => by
    simp only [firstB, Bool.and_eq_true, beq_iff_eq] at h
    cases k with
    | zero => simp [h.1]
    | succ k =>
      have := first_at h.2 (show k < n by omega)
      simpa [Nat.add_assoc, Nat.add_comm 1 k] using this

theorem heap_cut {g : Cut} {l : List Nat} {H' : Heap} (r : HRel ι H w) (hn : nodupB l = true) (h : cutH g l H l = some H') : HRel (ι.ren l) H' w := by
  have look : ∀ {i : Nat} {y : AObj} {b z : Nat}, H'[i]? = some y → (ι.ren l).blk[i]? = some (b, z) →
      ∃ o x, l[i]? = some o ∧ H[o]? = some x ∧ ι.blk[o]? = some (b, z) ∧ renO l (cutX g o x) = some y := by
    intro i y b z e1 e2
    obtain ⟨o, x, k1, k2, k3⟩ := cutH_at h e1
    obtain ⟨b', z', hb⟩ := r.blk_some k2
    have : (ι.ren l).blk[i]? = some (b', z') := by simp [Inst.ren, k1, hb]
    rw [this] at e2; cases e2
    exact ⟨o, x, k1, k2, hb, k3⟩
  have own : ∀ {o : Nat} {x y : AObj}, renO l (cutX g o x) = some y → y.owned = true → x.owned = true := by
    intro o x y hr ho
    rw [renO_owned hr] at ho
    rcases cutX_cases g o x with e | e | ⟨ks, e⟩ <;> rw [e] at ho
    · cases ho
    · exact ho
    · cases x <;> exact ho
  refine ⟨by rw [cutH_len h]; simp [Inst.ren], r.prot, ?_, ?_, ?_, r.base⟩
  · intro i y b z e1 e2
    obtain ⟨o, x, k1, k2, k3, hr⟩ := look e1 e2
    have ho := r.obj _ _ _ _ k2 k3
    refine renO_rel hr ?_
    rcases cutX_cases g o x with e | e | ⟨ks, e⟩ <;> rw [e]
    · trivial
    · exact ho
    · exact cutO_rel ho
  · intro i y b z e1 ho e2
    obtain ⟨o, x, k1, k2, k3, hr⟩ := look e1 e2
    exact r.own _ _ _ _ k2 (own hr ho) k3
  · intro i j y y' b z z' e1 o1 e2 o2 b1 b2
    obtain ⟨o, x, k1, k2, k3, hx⟩ := look e1 b1
    obtain ⟨o', x', m1, m2, m3, hy⟩ := look e2 b2
    have := r.sep _ _ _ _ _ _ _ k2 (own hx o1) m2 (own hy o2) k3 m3
    subst this
    exact nodup_inj hn k1 m1

theorem renD_rel {l : List Nat} : ∀ {D D' : List Nat} {ds : List Deferred}, renD l D = some D' → DRel ι D ds → DRel (ι.ren l) D' ds
  | [], _, _, h, k => by cases h; cases k; exact .nil
  | d :: D, _, _, h, k => by
    simp only [renD] at h
    split at h
    · rename_i j r h1 h2
      cases h
      obtain ⟨c, cs, rfl, k1, k2⟩ := All2.cons_inv k
      obtain ⟨b, z, e1, e2⟩ := k1
      exact .cons ⟨b, z, pos_blk h1 e1, e2⟩ (renD_rel h2 k2)
    · cases h

theorem wpIts_ren {ι ι' : Inst} {l : List Nat} {F : Fence} {n : Nat} {P : Program} {Q Q' : Exit → Act → World → Prop} (hb : ∀ (i : Nat) x, fixB l i = true → ι.blk[i]? = some x → ι'.blk[i]? = some x) (hq : ∀ e a w, Q e a w → Q' e a w) :
    ∀ (k : List It), itsB l k = true → ∀ (e : Exit) (a : Act) (w : World), wpIts ι' F n P Q k e a w → wpIts ι F n P Q' k e a w
  | [], _, e, a, w, h => hq _ _ _ h
  | it :: k, hm, e, a, w, h => by
    cases it with
    | code c =>
      have ih := wpIts_ren (F := F) (n := n) (P := P) hb hq k hm
      cases e <;> first | exact ih _ _ _ h | exact wpIn_mono h ih
    | now c =>
      have ih := wpIts_ren (F := F) (n := n) (P := P) hb hq k hm
      cases e <;> first | exact ih _ _ _ h | exact wpIn_mono h ih
    | lp c =>
      have ih := wpIts_ren (F := F) (n := n) (P := P) hb hq k hm
      cases e <;> first | exact ih _ _ _ h | exact LoopI.mono ih h
    | ops all rest =>
      have ih := wpIts_ren (F := F) (n := n) (P := P) hb hq k hm
      cases e <;> first | exact ih _ _ _ h | exact wpListIn_mono ih _ _ _ h
    | scp =>
      have ih := wpIts_ren (F := F) (n := n) (P := P) hb hq k hm
      cases e <;> first | exact h.elim | exact ih _ _ _ h
    | blk id =>
      have ih := wpIts_ren (F := F) (n := n) (P := P) hb hq k hm
      cases e <;> first | exact ih _ _ _ h | skip
      simp only [wpIts] at h ⊢
      split
      · rename_i e; rw [if_pos e] at h; exact ih _ _ _ h
      · rename_i e; rw [if_neg e] at h; exact ih _ _ _ h
    | begin o =>
      simp only [itsB, Bool.and_eq_true] at hm
      have ih := wpIts_ren (F := F) (n := n) (P := P) hb hq k hm.2
      cases e <;> first | exact h | skip
      intro b z e
      obtain ⟨w₂, h1, h2⟩ := h b z (hb _ _ hm.1 e)
      exact ⟨w₂, h1, ih _ _ _ h2⟩
    | fin o =>
      simp only [itsB, Bool.and_eq_true] at hm
      have ih := wpIts_ren (F := F) (n := n) (P := P) hb hq k hm.2
      cases e <;> first | exact h | skip
      intro b z e
      obtain ⟨j, w₄, h1, h2⟩ := h b z (hb _ _ hm.1 e)
      refine ⟨j, w₄, h1, ?_⟩
      cases j with
      | none => exact ih _ _ _ h2
      | some c => exact wpIn_mono h2 ih

theorem cutWith_ok {Q : AV → Heap → Prop} {g : Cut} {l : List Nat} {fr fr' : Fr} {stk : List Fr} {H' : Heap} (hc : cutWith g l fr H = some (fr', H')) (h : WW E Q fr' stk H') : WW E Q fr stk H := by
  unfold cutWith at hc
  split at hc
  · rename_i hb
    simp only [Bool.and_eq_true] at hb
    obtain ⟨⟨⟨h3, h4⟩, h5⟩, h6⟩ := hb
    split at hc
    · rename_i T2 D2 H2 hT hDr hH
      simp only [Option.some.injEq, Prod.mk.injEq] at hc
      obtain ⟨rfl, rfl⟩ := hc
      intro n ι a w r hD hk
      have hk' : KOk (ι.ren l) fr.kind := by
        cases hkd : fr.kind with
        | round l dst =>
          rw [hkd] at hk h3
          obtain ⟨b, z, e⟩ := hk
          exact ⟨b, z, fix_blk h3 e⟩
        | _ => trivial
      have hf : fenceOf (ι.ren l) fr.kind = fenceOf ι fr.kind := by
        cases hkd : fr.kind with
        | round l dst =>
          rw [hkd] at hk h3
          obtain ⟨b, z, e⟩ := hk
          simp only [fenceOf, blockOf, fix_blk h3 e, e]
        | _ => rfl
      have hw := h n (ι.ren l) a w ⟨heap_cut r.heap h5 hH, RepVs_ren hT (keepL_same _ _ r.tmps), fun gl v e => r.glob gl v e⟩ (renD_rel hDr hD) hk'
      simp only [hf] at hw
      refine wpIts_ren (l := l) (fun i x hi e => fix_blk hi e) ?_ _ h4 _ _ _ hw
      rintro e a w ⟨ι2, T, D, H2, hE, k⟩
      refine ⟨ι2, T, D, H2, ⟨hE.w0, hE.prot, fun i x hi e => hE.blk i x hi ?_, hE.old⟩, k⟩
      have := first_at h6 hi
      rw [Nat.zero_add] at this
      simp [Inst.ren, this, e]
    · cases hc
  · cases hc

theorem keep_setO : ∀ (ks : List Nat) (i : Nat) {T : List AV} {d : Option Tmp} {v : AV} {cs : List Value}, All2 (RepV ι) (setO T d v) cs → All2 (RepV ι) (setO (keepL ks i T) d v) cs
  | ks, i, T, none, v, cs, k => keepL_same ks i k
  | ks, i, [], some d, v, cs, k => by simpa [keepL, setO] using k
  | [], i, u :: T, some d, v, cs, k => by
    cases d with
    | zero =>
      simp only [setO, List.set_cons_zero] at k
      obtain ⟨c, cs, rfl, k1, k2⟩ := k.cons_inv
      simp only [keepL, setO, List.set_cons_zero]
      exact .cons k1 (keepL_same [] (i + 1) k2)
    | succ d =>
      simp only [setO, List.set_cons_succ] at k
      obtain ⟨c, cs, rfl, k1, k2⟩ := k.cons_inv
      simp only [keepL, setO, List.set_cons_succ]
      exact .cons trivial (keep_setO [] (i + 1) (d := some d) k2)
  | kk :: ks, i, u :: T, some d, v, cs, k => by
    cases d with
    | zero =>
      simp only [setO, List.set_cons_zero] at k
      obtain ⟨c, cs, rfl, k1, k2⟩ := k.cons_inv
      unfold keepL
      split
      · simp only [setO, List.set_cons_zero]; exact .cons k1 (keepL_same ks (i + 1) k2)
      · simp only [setO, List.set_cons_zero]; exact .cons k1 (keepL_same (kk :: ks) (i + 1) k2)
    | succ d =>
      simp only [setO, List.set_cons_succ] at k
      obtain ⟨c, cs, rfl, k1, k2⟩ := k.cons_inv
      unfold keepL
      split
      · simp only [setO, List.set_cons_succ]; exact .cons k1 (keep_setO ks (i + 1) (d := some d) k2)
      · simp only [setO, List.set_cons_succ]; exact .cons trivial (keep_setO (kk :: ks) (i + 1) (d := some d) k2)

theorem FrameW_of {fr : Fr} {T' : List AV} {p p' : Post} (hT : ∀ ι (cs : List Value), All2 (RepV ι) fr.T cs → All2 (RepV ι) T' cs) (hp : ∀ e T D H, p e T D H → p' e T D H) (h : FrameW E { fr with T := T' } p H) : FrameW E fr p' H := by
  intro n ι a w r hD hk
  have h1 := h n ι a w ⟨r.heap, hT ι _ r.tmps, r.glob⟩ hD hk
  exact wpIts_mono (fun _ _ h => h) (fun e a w ⟨ι', T, D, H, k1, k2, k3, k4⟩ => ⟨ι', T, D, H, k1, k2, k3, hp _ _ _ _ k4⟩) _ _ _ _ h1

theorem cutS_nil (ks : List (List Nat)) : cutS ks [] = [] := by cases ks <;> rfl
theorem cutS_ok {Q : AV → Heap → Prop} : ∀ (stk : List Fr) (ks : List (List Nat)) (kind : FK) (f : FuncId) (e : Exit) (T : List AV) (D : List Nat) (H : Heap), KW E Q (cutS ks stk) kind f e T D H → KW E Q stk kind f e T D H
  | [], ks, kind, f, e, T, D, H, h => by rw [cutS_nil] at h; exact h
  | fr' :: stk', [], kind, f, e, T, D, H, h => h
  | fr' :: stk', k :: ks, kind, f, e, T, D, H, h => by
    have ih := fun kind f e T D H => cutS_ok (Q := Q) stk' ks kind f e T D H
    simp only [cutS] at h
    unfold KW at h ⊢
    cases kind with
    | round l dst =>
      obtain ⟨j, hj, hD, s, p, g, T0, ps, c, b, d, hl, hW⟩ := h
      exact ⟨j, hj, hD, s, p, g, T0, ps, c, b, d, hl, FrameW_of (fun ι cs hk => keep_setO k 0 hk) (fun e T D H => ih _ _ e T D H) hW⟩
    | top => exact h
    | call dst =>
      obtain ⟨h0, fn, H', q, v, h1, h2, h3, h4, hW⟩ := h
      exact ⟨h0, fn, H', q, v, h1, h2, h3, h4, FrameW_of (fun ι cs hk => keep_setO k 0 hk) (fun e T D H => ih _ _ e T D H) hW⟩
    | iter l =>
      obtain ⟨h0, fn, H', q, v, h1, h2, h3, h4, hW⟩ := h
      exact ⟨h0, fn, H', q, v, h1, h2, h3, h4, FrameW_of (fun ι cs hk => keepL_same k 0 hk) (fun e T D H => ih _ _ e T D H) hW⟩

theorem cut_ok {Q : AV → Heap → Prop} {g : Cut} {fr fr' : Fr} {stk : List Fr} {H' : Heap} (hc : cutF g fr H = some (fr', H')) (h : WW E Q fr' (cutS g.stk stk) H') : WW E Q fr stk H :=
  cutWith_ok hc (FrameW_of (fr := fr') (T' := fr'.T) (fun _ _ h => h) (fun e T D H => cutS_ok stk g.stk _ _ e T D H) h)

theorem splitA_ok {sp : Option (Nat × List Step × Nat)} {go : List AV → Heap → Prop} (h : splitA sp T H go) : ∃ T' H', go T' H' ∧ ∀ ι a w, ARel E ι T H a w → ARel E ι T' H' a w := by
  unfold splitA at h
  split at h
  · exact ⟨T, H, h, fun _ _ _ r => r⟩
  · rename_i t p m
    split at h
    · rename_i k n ht
      obtain ⟨⟨h1, h2, _⟩, h⟩ := obl_ok (qs := [_, _]) h
      obtain ⟨j, e, _, _, hj⟩ := partI_ok h (by simpa using h1) (by simpa using h2)
      refine ⟨T, H, ?_, fun _ _ _ r => r⟩
      have : T.set t (.int k j) = T := by
        apply List.ext_getElem?
        intro i
        rw [List.getElem?_set]
        split
        · rename_i e'; subst e'
          have hlt := (List.getElem?_eq_some_iff.1 ht).1
          rw [if_pos hlt, ht, e]
        · rfl
      rw [← this]; exact hj
    · rename_i ob p0 ht
      split at h
      · rename_i ty v ho
        split at h
        · rename_i q k n hg
          obtain ⟨hq, h⟩ := obl_ok h
          rw [holds_app] at hq
          obtain ⟨hq, h1, h2, _⟩ := hq
          obtain ⟨j, e, _, _, hj⟩ := partI_ok h (by simpa using h1) (by simpa using h2)
          split at hj
          · rename_i v' hs
            refine ⟨T, _, hj, fun ι a w r => ⟨?_, r.tmps, r.glob⟩⟩
            obtain ⟨b, z, hb⟩ := r.heap.blk_some ho
            refine r.heap.upd ho rfl hb (fun _ _ => rfl) rfl rfl rfl rfl ?_
            obtain ⟨cells, fz, l, rr, e1, e2, e3, e4, e5⟩ := r.heap.obj _ _ _ _ ho hb
            obtain ⟨l1, mm, l2, el, _, hu, hs'⟩ := getP_ok _ v l q _ hg hq e4
            have := hs' (.int k j) mm v' hs (by rw [← e]; exact hu) rfl
            exact ⟨cells, fz, l, rr, e1, e2, e3, by rw [el]; exact this, e5⟩
          · cases hj
        · cases h
      · cases h
    · cases h

theorem regionB_ok (hV : E.Valid) (hS : ∀ f sp, E.spec f = some sp → SpecOk E f sp) {Q : AV → Heap → Prop} {K : Cfg} (hK : ∀ fr stk H, K fr stk H → WW E Q fr stk H) {fr : Fr} {k : List It} {stk : List Fr} {id : Nat} {ops : Array Oper} {draw : Bool}
    (hit : ∀ (ι : Inst) (F : Fence) (n : Nat) (Q : Exit → Act → World → Prop) (a : Act) (w : World), (Code.region id ops draw).wpIn F n E.P (wpIts ι F n E.P Q k) a w → wpIts ι F n E.P Q fr.items .normal a w)
    (h : regionB E K fr k stk H id ops draw) : WW E Q fr stk H := by
  unfold regionB at h
  refine mask_ok (f := fr.id) (id := id) ?_
  dsimp only at h
  split at h
  · rename_i hdr
    subst hdr
    split at h
    · split at h
      · rename_i o hlast
        split at h
        · rename_i hc
          simp only [Bool.and_eq_true, Option.isNone_iff_eq_none] at hc
          obtain ⟨⟨hg, ht⟩, hlx⟩ := hc
          intro n ι a w r hD hk
          refine hit _ _ _ _ _ _ ?_
          refine region_tail hV hS (D := fr.D) hk hlast hg ht ?_ r hD hlx h
          intro T' H' hX ι' a' w' hE r' hD'
          have h2 := exec_ok (fr := { fr with T := T', items := k }) (stk := stk) hV hS hK (fun T2 H2 hg2 => hK _ _ _ hg2) hX (n := n) r' hD' (hk.mono hE)
            (fun e a w => wpIts ι (fenceOf ι fr.kind) n E.P (lift E fr.base ι (KW E Q stk fr.kind fr.id)) k e a w)
          have hf : fenceOf ι' fr.kind = fenceOf ι fr.kind := fenceOf_ext hE hk
          simp only [hf] at h2
          exact Oper.wpIn_mono (fun a w h3 => wpIts_mono hE.blk (lift_ext hE) _ _ _ _ h3) h2
        · cases h
      · cases h
    split at h
    · rename_i s _
      split at h
      · intro n ι a w r hD hk
        refine hit _ _ _ _ _ _ ?_
        refine region_sch hV hS (D := fr.D) hk ?_ r hD h
        intro T' H' hK' ι' a' w' hE r' hD'
        have h2 := hK _ _ _ hK' n ι' a' w' r' hD' (hk.mono hE)
        have hf : fenceOf ι' fr.kind = fenceOf ι fr.kind := fenceOf_ext hE hk
        simp only [hf] at h2
        exact wpIts_mono hE.blk (lift_ext hE) _ _ _ _ h2
      · cases h
    split at h
    · rename_i hl
      intro n ι a w r hD hk
      refine hit _ _ _ _ _ _ ?_
      refine region_ok hV hS (D := fr.D) hk ?_ r hD hl h
      intro T' H' hK' ι' a' w' hE r' hD'
      have h2 := hK _ _ _ hK' n ι' a' w' r' hD' (hk.mono hE)
      have hf : fenceOf ι' fr.kind = fenceOf ι fr.kind := fenceOf_ext hE hk
      simp only [hf] at h2
      exact wpIts_mono hE.blk (lift_ext hE) _ _ _ _ h2
    · cases h
  · rename_i hdr
    have : draw = false := by simpa using hdr
    subst this
    refine frame_items (k' := .ops ops.toList ops.toList :: k) (hK _ _ _ h) fun n ι F a w r hw => ?_
    refine hit _ _ _ _ _ _ ?_
    refine wpIn_region_list ?_
    simpa [wpIts] using hw

theorem regionA_ok (hV : E.Valid) (hS : ∀ f sp, E.spec f = some sp → SpecOk E f sp) {Q : AV → Heap → Prop} {K : Cfg} (hK : ∀ fr stk H, K fr stk H → WW E Q fr stk H) {fr : Fr} {k : List It} {stk : List Fr} {id : Nat} {ops : Array Oper} {draw : Bool}
    (hit : ∀ (ι : Inst) (F : Fence) (n : Nat) (Q : Exit → Act → World → Prop) (a : Act) (w : World), (Code.region id ops draw).wpIn F n E.P (wpIts ι F n E.P Q k) a w → wpIts ι F n E.P Q fr.items .normal a w)
    (h : regionA E K fr k stk H id ops draw) : WW E Q fr stk H := by
  unfold regionA at h
  split at h
  · rename_i q1 H1 hfz
    obtain ⟨hq1, h⟩ := obl_ok h
    obtain ⟨T', H', h, hrel⟩ := splitA_ok (E := E) h
    have hs : WW E Q { fr with T := T' } stk H' := regionB_ok hV hS hK hit h
    intro n ι a w r hD hk
    obtain ⟨ι1, hE, r1⟩ := frzA_ok hfz hq1 r.heap
    have h2 := hs n ι1 a w (hrel ι1 a w ⟨r1, All2.imp (fun _ _ => RepV_mono hE) r.tmps, r.glob.mono hE⟩) (hD.mono hE) (hk.mono hE)
    have hf : fenceOf ι1 fr.kind = fenceOf ι fr.kind := fenceOf_ext hE hk
    simp only [hf] at h2
    exact wpIts_mono hE.blk (lift_ext hE) _ _ _ _ h2
  · cases h

/-- One step of the evaluator is right. -/
theorem stepR_ok (hV : E.Valid) (hS : ∀ f sp, E.spec f = some sp → SpecOk E f sp) {stop : FuncId → Nat → Nat → Option Cut} {Q : AV → Heap → Prop} {K : Cfg} (hK : ∀ fr stk H, K fr stk H → WW E Q fr stk H) {fr : Fr} {stk : List Fr}
    (h : stepR E stop Q (WW E Q) K fr stk H) : WW E Q fr stk H := by
  unfold stepR at h
  split at h
  · -- a loop's head
    rename_i c k hit
    split at h
    · split at h
      · rename_i fr' H' hc; exact cut_ok hc h
      · cases h
    · refine frame_items (k' := .code c :: .lp c :: k) (hK _ _ _ h) fun n ι F a w r hw => ?_
      rw [hit]
      exact LoopI.fold (wpIn_mono hw fun e a w h => wpIts_lp _ _ _ h)
  · rename_i id k hit
    refine frame_items (k' := k) (hK _ _ _ h) fun n ι F a w r hw => ?_
    rw [hit]; exact hw
  · rename_i k hit
    refine frame_items (k' := k) (hK _ _ _ h) fun n ι F a w r hw => ?_
    rw [hit]; exact hw
  · -- the begin of a round
    rename_i l k hit
    split at h
    · rename_i p f T0 ps ca cb d hl
      intro n ι a w r hD hk
      rw [hit]
      intro b z hb
      obtain ⟨tmps', db, dz, fn', hobj, hT', hdb⟩ := r.heap.obj _ _ _ _ hl hb
      refine ⟨_, run_beginRound (P := E.P) hobj rfl, ?_⟩
      have hH := r.heap.upd (w' := w.putObj b (.loop { state := .busy, pending := p, fn := fn', tmps := tmps', params := ps.toArray, assign := ca, body := cb, defers := db })) (x' := .loop .busy p f T0 ps ca cb d) hl rfl hb (fun k hk => World.putObj_heap_other hk) (by simp) rfl rfl rfl
        ⟨tmps', db, dz, fn', World.putObj_heap_same (Array.getElem?_eq_some_iff.1 hobj).1, hT', hdb⟩
      exact hK _ _ _ h n ι a _ ⟨hH, r.tmps, r.glob⟩ hD hk
    · cases h
  · -- the end of a loop
    rename_i l k hit
    split at h
    · rename_i s p f T0 ps ca cb d hl
      split at h
      · cases h
      · rename_i hs
        have hs' : s ≠ .busy := fun e => hs (by rw [e]; rfl)
        intro n ι a w r hD hk
        rw [hit]
        intro b z hb
        obtain ⟨tmps', db, dz, fn', hobj, hT', hdb⟩ := r.heap.obj _ _ _ _ hl hb
        refine ⟨_, _, run_endLoop (P := E.P) hobj hs', ?_⟩
        have hH := r.heap.upd (w' := w.putObj b (.loop { state := .exhausted, pending := p, fn := fn', tmps := tmps', params := ps.toArray, assign := ca, body := cb, defers := db })) (x' := .loop .exhausted p f T0 ps ca cb d) hl rfl hb (fun k hk => World.putObj_heap_other hk) (by simp) rfl rfl rfl
          ⟨tmps', db, dz, fn', World.putObj_heap_same (Array.getElem?_eq_some_iff.1 hobj).1, hT', hdb⟩
        dsimp only
        split at h
        · exact hK _ _ _ h n ι a _ ⟨hH, r.tmps, r.glob⟩ hD hk
        · exact hK _ _ _ h n ι a _ ⟨hH, r.tmps, r.glob⟩ hD hk
    · cases h
  · -- a region's end
    rename_i all k hit
    refine frame_items (k' := k) (hK _ _ _ h) fun n ι F a w r hw => ?_
    rw [hit]; exact hw
  · -- an operation
    rename_i all o rest k hit
    intro n ι a w r hD hk
    rw [hit]
    have hgo : ∀ (T : List AV) (T' : List AV) (H' : Heap), K { fr with T := T', items := .ops all rest :: k } stk H' → FrameW E { ({ fr with T := T, items := .ops all rest :: k } : Fr) with T := T' } (KW E Q stk fr.kind fr.id) H' := fun T T' H' hk => hK _ _ _ hk
    have hab : ∀ f, o.about E.P w a.eval = some f → (fenceOf ι fr.kind).fn f := fun f _ => fence_fn _ f
    change wpListIn (fenceOf ι fr.kind) n E.P all.toArray (wpIts ι (fenceOf ι fr.kind) n E.P (lift E fr.base ι (KW E Q stk fr.kind fr.id)) k) (o :: rest) a w
    unfold wpListIn
    split at h
    · rename_i hg
      rw [if_pos (wanted_none hg)]
      exact exec_ok hV hS hK (hgo fr.T) h r hD hk _
    · rename_i j want hg
      split at h
      · rename_i t ht
        split at h
        · rename_i b hb
          obtain ⟨c, hc, hr⟩ := r.tmps.at t _ hb
          have hyb := yielded_at ht hc
          rw [hr.bool] at hyb
          dsimp only [boolOf] at hyb
          rcases cond_split h with ⟨hbw, h⟩ | ⟨hbw, h⟩
          · have hbw' : b = want := by simpa using hbw
            have hw : Region.wanted o (yielded all.toArray a.tmps) = true := by simp [Region.wanted, hg, hyb, hbw']
            rw [if_pos hw]
            exact exec_ok hV hS hK (hgo _) h ⟨r.heap, set_bool hbw' r.tmps hb, r.glob⟩ hD hk _
          · have hbw' : b = !want := by cases b <;> cases want <;> simp_all
            have hw : ¬ Region.wanted o (yielded all.toArray a.tmps) = true := by simp [Region.wanted, hg, hyb, hbw']
            rw [if_neg hw]
            refine ⟨hab, ?_⟩
            exact next_ok (fr := { fr with items := .ops all rest :: k }) (hK _ _ _ h) (Ext.refl ι) r.heap RepV_undef (set_bool hbw' r.tmps hb) r.glob hD hk
        · rename_i vs hb
          obtain ⟨c, hc, hr⟩ := r.tmps.at t _ hb
          obtain ⟨l, rfl⟩ := tup_undef _ hr
          have hyb := yielded_at ht hc
          dsimp only [boolOf] at hyb
          have hw : ¬ Region.wanted o (yielded all.toArray a.tmps) = true := by simp [Region.wanted, hg, hyb]
          rw [if_neg hw]
          refine ⟨hab, ?_⟩
          exact next_ok (fr := { fr with items := .ops all rest :: k }) (hK _ _ _ h) (Ext.refl ι) r.heap RepV_undef r.tmps r.glob hD hk
        · cases h
      · cases h
  · -- code that a head has begun
    rename_i c0 k hit
    split at h
    · exact regionA_ok hV hS hK (fun ι F n Q a w h => by rw [hit]; exact h) h
    · cases h
  · -- code
    rename_i c0 k hit
    split at h
    · refine frame_items (k' := k) (hK _ _ _ h) fun n ι F a w r hw => ?_
      rw [hit]; exact wpIn_skip hw
    · refine frame_items (k' := k) (hK _ _ _ h) fun n ι F a w r hw => ?_
      rw [hit]; exact wpIn_label hw
    · rename_i x y
      refine frame_items (k' := .code x :: .code y :: k) (hK _ _ _ h) fun n ι F a w r hw => ?_
      rw [hit]; exact wpIn_seq (wpIn_mono hw wpIts_code)
    · rename_i c t e
      split at h
      · rename_i b hb
        rcases cond_split h with ⟨hbt, h⟩ | ⟨hbt, h⟩
        · intro n ι a w r hD hk
          rw [hit]
          exact wpIn_cond (t := true) (by rw [(ev_ok hb r).bool, hbt]) (hK _ _ _ h n ι a w (condT_rel hbt r hb) hD hk)
        · intro n ι a w r hD hk
          rw [hit]
          exact wpIn_cond (t := false) (by rw [(ev_ok hb r).bool, hbt]) (hK _ _ _ h n ι a w (condT_rel hbt r hb) hD hk)
      · cases h
    · rename_i id c
      refine frame_items (k' := .code c :: .blk id :: k) (hK _ _ _ h) fun n ι F a w r hw => ?_
      rw [hit]; exact wpIn_block (wpIn_mono hw wpIts_blk)
    · rename_i c
      refine frame_items (k' := .code c :: .scp :: k) (hK _ _ _ h) fun n ι F a w r hw => ?_
      rw [hit]; exact wpIn_scope (wpIn_mono hw wpIts_scp)
    · rename_i b
      refine frame_items (k' := .lp b :: k) (hK _ _ _ h) fun n ι F a w r hw => ?_
      rw [hit]; exact LoopI.wpIn hw
    · rename_i id ops draw
      split at h
      · split at h
        · rename_i fr' H' hc; exact cut_ok hc h
        · cases h
      · exact regionA_ok hV hS hK (fun ι F n Q a w h => by rw [hit]; exact h) h
    · rename_i f ps asg body
      split at h
      · rename_i g caps hf
        split at h
        · rename_i fn hfn
          split at h
          · rename_i c hc
            split at h
            · rename_i l0 dst hkind
              split at h
              · rename_i s p f' T' ps' a' b' d hl0
                exact range_ok hV hit hf hfn hc (.inl ⟨l0, dst, s, p, f', T', ps', a', b', d, hkind, hl0, hK _ _ _ h⟩)
              · cases h
            · rename_i hnr
              exact range_ok hV hit hf hfn hc (.inr ⟨fun l0 dst e => hnr l0 dst e, hK _ _ _ h⟩)
          · cases h
        · cases h
      · cases h
    · rename_i id
      split at h
      · rename_i k' hb
        refine frame_items (k' := k') (hK _ _ _ h) fun n ι F a w r hw => ?_
        rw [hit]; exact wpIn_exit (wpIts_exit hb hw)
      · rename_i hb
        split at h
        · rename_i ht
          intro n ι a w r hD hk
          rw [hit]
          exact wpIn_exit (wpIts_leave (.inr ⟨id, rfl, hb⟩) ht ⟨ι, fr.T, fr.D, H, ExtB.refl _ ι, r, hD, leave_ok hK rfl h⟩)
        · cases h
    · split at h
      · rename_i ht
        intro n ι a w r hD hk
        rw [hit]
        exact wpIn_ret (wpIts_leave (.inl rfl) ht ⟨ι, fr.T, fr.D, H, ExtB.refl _ ι, r, hD, leave_ok hK rfl h⟩)
      · cases h
    · cases h
  · rename_i hit
    intro n ι a w r hD hk
    rw [hit]
    exact ⟨ι, fr.T, fr.D, H, ExtB.refl _ ι, r, hD, leave_ok hK rfl h⟩

theorem run_ok (hV : E.Valid) (hS : ∀ f sp, E.spec f = some sp → SpecOk E f sp) {stop : FuncId → Nat → Nat → Option Cut} {Q : AV → Heap → Prop} : ∀ (n : Nat) (fr : Fr) (stk : List Fr) (H : Heap), run E stop Q (WW E Q) n fr stk H → WW E Q fr stk H
  | 0, _, _, _, h => h
  | n + 1, _, _, _, h => stepR_ok hV hS (fun _ _ _ => run_ok hV hS n _ _ _) h

/-- A loop whose head is met once more than its body runs. -/
theorem now_ok {Q : AV → Heap → Prop} {fr : Fr} {stk : List Fr} {c : Code} {k : List It} (hit : fr.items = .code c :: k) (h : WW E Q { fr with items := .now c :: k } stk H) : WW E Q fr stk H := by
  refine frame_items (k' := .now c :: k) h fun n ι F a w r hw => ?_
  rw [hit]
  exact hw

theorem loop_unfold {Q : AV → Heap → Prop} {fr : Fr} {stk : List Fr} {c : Code} {k : List It} (hit : fr.items = .lp c :: k) (h : WW E Q { fr with items := .code c :: .lp c :: k } stk H) : WW E Q fr stk H := by
  refine frame_items (k' := .code c :: .lp c :: k) h fun n ι F a w r hw => ?_
  rw [hit]
  exact LoopI.fold (wpIn_mono hw fun e a w h => wpIts_lp _ _ _ h)

/-- The answers as data. -/
def backR (n : Nat) (c : TC) (v : AV) : Option c.den :=
  if n = 1 then c.back.1 v else if n = 0 then (match v with | .tup [] => some c.dflt | _ => none) else match v with | .tup vs => c.back.2 vs | _ => none

theorem backR_ok {n : Nat} {c : TC} {v : AV} {r : c.den} {u : Value} (h : backR n c v = some r) (k : RepV ι v u) : RepV ι (resV n c r) u := by
  unfold backR at h
  unfold resV
  split at h
  · rename_i e; rw [if_pos e]; exact RepV_back h k
  · rename_i e; rw [if_neg e]
    split at h
    · rename_i e0; rw [if_pos e0]
      split at h
      · exact k
      · cases h
    · rename_i e0; rw [if_neg e0]
      split at h
      · rename_i vs
        obtain ⟨l, rfl, kl⟩ := k
        exact ⟨l, rfl, (All2_V0 (both_nt c r)).2 (args_back c vs r l h (All2.imp (fun _ _ => RepV_of0) kl))⟩
      · cases h

def finQ (n : Nat) (c : TC) (Q : c.den → Prop) (v : AV) : Prop := match backR n c v with | some r => Q r | none => False

/-- What is handed back, seen as plain data. -/
def finT (n : Nat) (c : TC) (Q : c.den → Prop) (v : AV) (H : Heap) : Prop :=
  match viewT H v with
  | some (q, u, _) => obl q (finQ n c Q u)
  | none => False

/-- Two entries of known things: are they the same? -/
def sameG : AV → AV → Bool
  | .int k n, .int k' n' => decide (k = k') && decide (n = n')
  | .fn f [], .fn f' [] => decide (f = f')
  | _, _ => false

def sameGs : List (AV × AV) → List (AV × AV) → Bool
  | [], [] => true
  | e :: es, e' :: es' => sameG e.1 e'.1 && sameG e.2 e'.2 && sameGs es es'
  | _, _ => false

theorem sameG_ok {x y : AV} (h : sameG x y = true) {ι : Inst} {c : Value} (k : RepV0 ι x c) (ι' : Inst) : RepV0 ι' y c := by
  unfold sameG at h
  split at h
  · simp only [Bool.and_eq_true, decide_eq_true_eq] at h
    obtain ⟨rfl, rfl⟩ := h
    unfold RepV0 at k ⊢
    simp only [aggB, Bool.false_eq_true, if_false] at k ⊢
    rw [Rep] at k ⊢
    exact k
  · simp only [decide_eq_true_eq] at h
    subst h
    unfold RepV0 at k ⊢
    simp only [aggB, Bool.false_eq_true, if_false] at k ⊢
    rw [Rep] at k ⊢
    obtain ⟨k1, l, k2, k3⟩ := k
    refine ⟨k1, l, k2, ?_⟩
    rw [RepL] at k3 ⊢
    exact k3
  · cases h

theorem sameGs_ok {ι : Inst} : ∀ {xs ys : List (AV × AV)} {cs : List MapEntry}, sameGs xs ys = true → All2 (fun (e : AV × AV) (c : MapEntry) => RepV0 ι e.1 c.key ∧ RepV0 ι e.2 c.val) xs cs →
    ∀ ι', All2 (fun (e : AV × AV) (c : MapEntry) => RepV0 ι' e.1 c.key ∧ RepV0 ι' e.2 c.val) ys cs
  | [], [], _, _, k, _ => by cases k; exact .nil
  | [], _ :: _, _, h, _, _ => by cases h
  | _ :: _, [], _, h, _, _ => by cases h
  | x :: xs, y :: ys, _, h, k, ι' => by
    simp only [sameGs, Bool.and_eq_true] at h
    obtain ⟨c, cs, rfl, k1, k2⟩ := k.cons_inv
    exact .cons ⟨sameG_ok h.1.1 k1.1 ι', sameG_ok h.1.2 k1.2 ι'⟩ (sameGs_ok h.2 k2 ι')

/-- What is handed back, in memory of its own. -/
def ownT (e : Own) (H : Heap) (v : AV) : (c : TC) → Option (List Prop × c.den)
  | .slice c => match v, e with
    | .osl o [] s 0 len _, .row e => match H[o]? with
      | some (.cell true t (.arr n c' xs)) => if h : c' = c then (if t = e ∧ s = c.size ∧ c.flat = true then some ([len ≤ n], (h ▸ xs : List c.den).take len) else none) else none
      | _ => none
    | _, _ => none
  | .junk => match v, e with
    | .mp o, .mp es0 => match H[o]? with
      | some (.map es) => if sameGs es es0 = true then some ([], ()) else none
      | _ => none
    | _, _ => none
  | _ => none

def finO (e : Own) (c : TC) (Q : c.den → Prop) (v : AV) (H : Heap) : Prop :=
  match ownT e H v c with
  | some (q, r) => obl q (Q r)
  | none => False

def finS (sp : Spec) (Q : sp.cod.den → Prop) (v : AV) (H : Heap) : Prop :=
  match sp.own with
  | none => finT sp.n sp.cod Q v H
  | some e => if sp.n = 1 then finO e sp.cod Q v H else False

theorem ownT_ok {e : Own} {v : AV} : ∀ {c : TC} {r : c.den} {q : List Prop} {u : Value} {w0 : World}, ownT e H v c = some (q, r) → holds q → HRel ι H w → RepV ι v u → ι.w0 = w0 → ownRes e w0 w c r u := by
  intro c r q u w0 h hq hr hu hw0
  cases c <;> first | (cases h; done) | skip
  · rename_i c0
    simp only [ownT] at h
    split at h
    · rename_i o s len cap e
      split at h
      · rename_i t n c' xs ho
        split at h
        · rename_i hcc; subst hcc
          split at h
          · rename_i hc
            obtain ⟨rfl, rfl, hfl⟩ := hc
            simp only [Option.some.injEq, Prod.mk.injEq] at h
            obtain ⟨rfl, rfl⟩ := h
            have hlen : len ≤ n := hq.1
            have hu := hu.one rfl rfl
            rw [Rep] at hu
            obtain ⟨b, z, k, hb, hv, hk, hkz, _⟩ := hu
            simp only [List.cons.injEq, and_true] at hv
            subst hv
            obtain ⟨cells, fz, l, rr, e1, e2, e3, e4, e5⟩ := hr.obj _ _ _ _ ho hb
            have e5 : fz = (0, 0) := e5
            subst e5
            have hown := hr.own _ _ _ _ ho rfl hb
            rw [Rep] at e4
            obtain ⟨hn, hrep⟩ := e4
            obtain ⟨l1, l2, el, el1, hr1, hr2⟩ := hrep.split (RepD_len c') len (by omega)
            subst hw0
            refine ⟨hfl, t, rfl, b, k, cells, l1, l2 ++ rr, ?_, hown.2.2, e1, by rw [e2, el]; simp, hr1.mono fun x l h => RepD_data c' (.inl hfl) x l h, ?_, ?_⟩
            · simp [pathOff]; omega
            · simp; omega
            · rw [e3]; simpa [pathOff] using hkz
          · cases h
        · cases h
      · cases h
    · cases h
  · simp only [ownT] at h
    split at h
    · rename_i o es0
      split at h
      · rename_i es ho
        split at h
        · rename_i hs
          have hu := hu.one rfl rfl
          rw [Rep] at hu
          obtain ⟨b, z, hb, hv⟩ := hu
          simp only [List.cons.injEq, and_true] at hv
          subst hv
          have hown := hr.own _ _ _ _ ho rfl hb
          obtain ⟨ents, clock, e1, e2⟩ := hr.obj _ _ _ _ ho hb
          subst hw0
          exact ⟨es0, rfl, b, ents, clock, rfl, hown.2.2, e1, sameGs_ok hs e2⟩
        · cases h
      · cases h
    · cases h

theorem ownRes_rep {e : Own} {w w' : World} {pr : Nat → Option Obj} : ∀ {c : TC} {r : c.den} {u : Value}, ownRes e w w' c r u → RepV ⟨w, protUp pr w w', []⟩ (resV 1 c r) u := by
  intro c r u h
  cases c <;> first | (cases h; done) | skip
  · rename_i c0
    obtain ⟨hfl, t, _, b, k, cells, l, rr, rfl, hb, hw, hcl, hrep, hk, hkz⟩ := h
    refine RepV_of_rep rfl ?_
    refine Rep_ofD.2 ⟨_, rfl, .inr ⟨b, 0, k, cells, t, (0, 0), l, rfl, hk, ?_, hrep.mono fun x l h => RepD_data c0 (.inl hfl) x l h, ?_⟩⟩
    · simp only [protUp]; rw [if_neg (by omega)]; exact hw
    · have := At.mid (l1 := []) (m := l) (l2 := rr) (cells := cells) (by simpa using hcl)
      simpa using this
  · obtain ⟨es, _, b, ents, clock, rfl, _⟩ := h
    refine RepV_of_rep rfl ?_
    refine Rep_ofD.2 ⟨_, rfl, ?_⟩
    simp [Value.oneCell']

theorem spec_of_run (hV : E.Valid) {f : FuncId} {sp : Spec} {fn : Func} {c : Code} (hf : E.fns f = some fn) (hc : fn.body = some c)
    (h : ∀ x, sp.pre x → WW E (finS sp fun r => r = sp.f x) { id := f, kind := .top, T := entT fn (argsOf sp.dom x), items := [.code c], D := [], base := 0 } [] []) : SpecOk E f sp := by
  intro x w pr args hp hpr hg ha
  refine .inr ⟨callFunc_enter hV hf hc _, ?_⟩
  have hH : HRel ⟨w, pr, []⟩ [] w := ⟨rfl, hpr, fun i x b z h => by simp at h, fun i x b z h => by simp at h, fun i j x y b z z' h => by simp at h, Below.refl _ _⟩
  refine (callsIn_wide.1 (body_ok (n := 0) hV (β := 0) rfl hf hc (.inl rfl) (h x hp) hH hg ha (R := fun e w' => ∃ v, e = .returned v ∧ _) ?_))
  rintro e T' D' H' ⟨⟨j, hj, hret⟩, fn', H'', q, v, h1, h2, h3, h4, h5⟩
  refine ⟨isRet_cases hj hret, fn', H'', q, v, h1, h2, h3, h4, fun ι1 u w' hE1 hH1 hu1 => ⟨u, rfl, ?_⟩⟩
  have h5 : finS sp (fun r => r = sp.f x) v H'' := h5
  unfold finS at h5
  split at h5
  case h_2 e ho =>
    split at h5
    case isFalse => cases h5
    rename_i hn
    unfold finO at h5
    split at h5
    case h_2 => cases h5
    rename_i q2 r hr
    obtain ⟨hq2, h5⟩ := obl_ok h5
    subst h5
    have hres := ownT_ok (w0 := w) hr hq2 hH1 hu1 hE1.w0
    have hB := hH1.base
    rw [hE1.w0] at hB
    refine ⟨hB, ?_, fun e' ho' => by rw [ho] at ho'; cases ho'; exact hres⟩
    rw [hn]
    exact ownRes_rep hres
  rename_i hno
  unfold finT at h5
  split at h5
  case h_2 => cases h5
  rename_i q2 v2 H2 hv2
  obtain ⟨hq2, h5⟩ := obl_ok h5
  obtain ⟨ι', hE2, hH', hu⟩ := viewT_ok hv2 hq2 hH1 hu1
  have hE := hE1.trans hE2
  have hw0 : ι'.w0 = w := hE.w0
  have hB := hH'.base
  rw [hw0] at hB
  refine ⟨hB, ?_, fun e ho => by rw [hno] at ho; cases ho⟩
  unfold finQ at h5
  split at h5
  case h_2 => cases h5
  rename_i r hr
  subst h5
  refine resV_data (.inr ?_) (backR_ok hr hu)
  intro b o e
  simp only [protUp]
  split
  · rename_i hb
    have := hE.old b hb
    rw [← e, this]
  · exact hH'.prot b o e
end Go.Eng
end
