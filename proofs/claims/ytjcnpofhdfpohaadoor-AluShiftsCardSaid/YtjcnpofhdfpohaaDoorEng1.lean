/- A part of the proof that the laws of this seat hold. Conditions: none beyond the row. -/
import Derived.Test.YtjcnpofhdfpohaaDoorEng0
import Derived.OrdersIn
import Derived.Still
import Derived.KernelRfl
import Derived.WideKeyArgs
import Derived.Deep.Slices
import Derived.OpenShut
import Derived.Laws.Externs
section
/- The evaluator is right: all its steps; contracts out of runs. -/
namespace Go.Eng
open Go.RowKit
variable {E : Env} {ι : Inst} {T : List AV} {H : Heap} {a : Act} {w : World}

theorem wanted_none {o : Oper} {y : Nat → Option Bool} (h : o.guard = none) : Region.wanted o y = true := by simp [Region.wanted, h]

def boolOf : Value → Option Bool
  | .bool b => some b
  | _ => none

theorem yielded_at {all : List Oper} {j : Nat} {t : Tmp} {c : Value} (h1 : (all[j]?).bind (·.dst) = some t) (h2 : a.tmps.toList[t]? = some c) : yielded all.toArray a.tmps j = boolOf c := by
  have h3 : a.tmps[t]? = some c := by simpa using h2
  simp only [yielded, List.getElem?_toArray, h1, Option.bind_some, h3]
  cases c <;> rfl

theorem set_bool {t : Nat} {b b' : Bool} (hb : b = b') (h : All2 (RepV ι) T a.tmps.toList) (ht : T[t]? = some (.bool b)) : All2 (RepV ι) (T.set t (.bool b')) a.tmps.toList := by
  refine h.set_same t _ fun c hc => ?_
  obtain ⟨c', e, k⟩ := h.at t _ ht
  rw [hc] at e; cases e
  rw [k.bool, hb]; exact RepV_bool _

theorem putObj_below {b : Nat} {o : Obj} (h : Below ι.w0.heap.size ι.w0 w) (hb : ι.w0.heap.size ≤ b) : Below ι.w0.heap.size ι.w0 (w.putObj b o) :=
  h.trans ⟨rfl, rfl, rfl, by simp, fun k hk => World.putObj_heap_other (by omega)⟩

theorem entT_yld {l b z : Nat} {caps : List AV} {us : List Value} (hb : ι.blk[l]? = some (b, z)) (h : All2 (RepV ι) caps us) : All2 (RepV ι) (.yld l :: caps) (.func (.yield b) #[] #[] :: us) :=
  .cons (RepV_of_rep rfl (by rw [Rep]; exact ⟨b, z, hb, rfl⟩)) h

theorem range_ok (hV : E.Valid) {Q : AV → Heap → Prop} {fr : Fr} {stk : List Fr} {k : List It} {f : Operand} {ps : Array Tmp} {asg body : Code} {g : FuncId} {caps : List AV} {fn : Func} {c : Code}
    (hit : fr.items = .code (.rangeFunc f ps asg body) :: k) (hf : ev E fr.T f = some (.fn g caps)) (hfn : E.fns g = some fn) (hc : fn.body = some c)
    (hW : (∃ l0 dst s p f' T' ps' a' b' d, fr.kind = .round l0 dst ∧ H[l0]? = some (.loop s p f' T' ps' a' b' d) ∧
        WW E Q { id := g, kind := .iter H.length, T := entT fn (.yld H.length :: caps), items := [.code c], D := [], base := H.length + 1 } ({ fr with items := .fin H.length :: k } :: stk) (H ++ [.loop .ready none fr.id fr.T ps.toList asg body d])) ∨
      ((∀ l0 dst, fr.kind ≠ .round l0 dst) ∧ WW E Q { id := g, kind := .iter (H.length + 1), T := entT fn (.yld (H.length + 1) :: caps), items := [.code c], D := [], base := H.length + 2 } ({ fr with items := .fin (H.length + 1) :: k, D := H.length :: fr.D } :: stk)
        (H ++ [.dfd, .loop .ready none fr.id fr.T ps.toList asg body H.length]))) :
    WW E Q fr stk H := by
  intro n ι a w r hD hk
  rw [hit]
  refine wpIn_rangeFunc fun fnr _ => ?_
  obtain ⟨l, hfe, hcaps⟩ := fn_inv (ev_ok hf r)
  have hres : ∀ (b : Nat) (w1 : World), (resolve a.eval (rangeCall f b) 0).run E.P w1 = .ok { target := .fn (.func g) l.toArray, args := #[.func (.yield b) #[] #[]] } w1 := fun b w1 => by
    simp only [resolve, hfe]
    simp [Act.eval, Deferred.ofValue]
  have hinv : ∀ (b : Nat) (w1 : World), (invoke (.fn (.func g) l.toArray) #[.func (.yield b) #[] #[]]).run E.P w1 = .ok (.enter g (Value.func (.yield b) #[] #[] :: l).toArray) w1 := fun b w1 => by
    have := callFunc_enter (w := w1) hV hfn hc (Value.func (.yield b) #[] #[] :: l).toArray
    simpa [invoke] using this
  -- what the iterator's frame owes
  have fin : ∀ {ι1 : Inst} {H1 : Heap} {w1 : World} {lid b z : Nat} {D' : List Nat} {mark : List Deferred} {β : Nat}, β = H1.length → Ext ι ι1 → HRel ι1 H1 w1 → ι1.blk[lid]? = some (b, z) → DRel ι1 D' (mark ++ a.defers) →
      WW E Q { id := g, kind := .iter lid, T := entT fn (.yld lid :: caps), items := [.code c], D := [], base := β } ({ fr with items := .fin lid :: k, D := D' } :: stk) H1 →
      CallsIn (fenceOf ι fr.kind) (n - 1) E.P g (Value.func (.yield b) #[] #[] :: l).toArray w1 (rangePost (fenceOf ι fr.kind) n E.P b (wpIts ι (fenceOf ι fr.kind) n E.P (lift E fr.base ι (KW E Q stk fr.kind fr.id)) k) { a with defers := mark ++ a.defers }) := by
    intro ι1 H1 w1 lid b z D' mark β hβ hE hH hb hD' hW
    refine callsIn_fence (ι := ι) (k := fr.kind) ?_
    refine body_ok (ι := ι1) hV hβ hfn hc (.inr (.inr ⟨_, rfl⟩)) hW hH (r.glob.mono hE) (entT_yld hb (All2.imp (fun _ _ => RepV_mono hE) hcaps)) ?_
    rintro e T' D2 H2 ⟨⟨j, hj, hret⟩, fn', H'', q, v, h1, h2, h3, h4, h5⟩
    refine ⟨isRet_cases hj hret, fn', H'', q, v, h1, h2, h3, h4, fun ι2 u w2 hE2 hH2 _ => ?_⟩
    have hEE := hE.trans hE2
    have := h5 n ι2 { a with defers := mark ++ a.defers } w2 ⟨hH2, All2.imp (fun _ _ => RepV_mono hEE) r.tmps, r.glob.mono hEE⟩ (hD'.mono hE2) (hk.mono hEE)
    have hff : fenceOf ι2 fr.kind = fenceOf ι fr.kind := fenceOf_ext hEE hk
    simp only [hff] at this
    obtain ⟨jump, w4, he, hj'⟩ := this b z (hE2.blk _ _ hb)
    refine ⟨jump, w4, he, ?_⟩
    cases jump with
    | none => exact wpIts_mono hEE.blk (lift_ext hEE) _ _ _ _ hj'
    | some cc => exact wpIn_mono hj' (wpIts_mono hEE.blk (lift_ext hEE) _)
  rcases hW with ⟨l0, dst, s, p, f', T', ps', a', b', d, hkind, hl0, hW⟩ | ⟨hnr, hW⟩
  · obtain ⟨b0, z0, hb0⟩ := r.heap.blk_some hl0
    obtain ⟨tmps0, db, dz, fn0, hobj, _, hdb⟩ := r.heap.obj _ _ _ _ hl0 hb0
    have hround : (fenceOf ι fr.kind).round = some b0 := by rw [hkind]; simp only [fenceOf, blockOf, hb0]; rfl
    let rcd : Loop := { state := .ready, pending := none, fn := fnr, tmps := a.tmps, params := ps, assign := asg, body := body, defers := db }
    have hE := Ext.add ι w.heap.size 0
    have hH : HRel (ι.add w.heap.size 0) (H ++ [.loop .ready none fr.id fr.T ps.toList asg body d]) (w.alloc (.loop rcd)) :=
      r.heap.alloc (.loop rcd) 0 _ ⟨a.tmps, db, dz, fnr, heap_alloc_new, All2.imp (fun _ _ => RepV_mono hE) r.tmps, hE.blk _ _ hdb⟩
    have hb : (ι.add w.heap.size 0).blk[H.length]? = some (w.heap.size, 0) := by rw [r.heap.len]; exact ι.add_at _ _
    refine ⟨w.heap.size, [], w.alloc (.loop rcd), _, w.alloc (.loop rcd), g, _, w.alloc (.loop rcd), ?_, hres _ _, fun g' _ => fence_fn _ g', hinv _ _, by rw [fence_depth]; simp, fin (by simp) hE hH hb (hD.mono hE) hW⟩
    rw [hround]
    simp only [Instr.enterLoop, Sem.run_bind, run_getLoop hobj, Result.andThen, Sem.run_pure]
    rfl
  · have hround : (fenceOf ι fr.kind).round = none := by
      cases hkd : fr.kind with
      | round l0 dst => exact absurd hkd (hnr l0 dst)
      | _ => rfl
    let rcd : Loop := { state := .ready, pending := none, fn := fnr, tmps := a.tmps, params := ps, assign := asg, body := body, defers := w.heap.size }
    have hE1 := Ext.add ι w.heap.size 0
    have hH1 : HRel (ι.add w.heap.size 0) (H ++ [.dfd]) (w.alloc (.deferred (some []))) := r.heap.alloc (.deferred (some [])) 0 .dfd heap_alloc_new
    have hE2 := Ext.add (ι.add w.heap.size 0) (w.alloc (.deferred (some []))).heap.size 0
    have hEE := hE1.trans hE2
    have hdb : (ι.add w.heap.size 0).blk[H.length]? = some (w.heap.size, 0) := by rw [r.heap.len]; exact ι.add_at _ _
    have hH2 := hH1.alloc (.loop rcd) 0 (.loop .ready none fr.id fr.T ps.toList asg body H.length) ⟨a.tmps, w.heap.size, 0, fnr, heap_alloc_new, All2.imp (fun _ _ => RepV_mono hEE) r.tmps, hE2.blk _ _ hdb⟩
    rw [List.append_assoc, List.singleton_append] at hH2
    have hb : ((ι.add w.heap.size 0).add (w.alloc (.deferred (some []))).heap.size 0).blk[H.length + 1]? = some (w.heap.size + 1, 0) := by
      have := (ι.add w.heap.size 0).add_at (w.alloc (.deferred (some []))).heap.size 0
      have hl : (ι.add w.heap.size 0).blk.length = H.length + 1 := by simp [Inst.add, r.heap.len]
      rw [hl] at this
      simpa using this
    refine ⟨w.heap.size + 1, [{ target := .collected w.heap.size, args := #[] }], (w.alloc (.deferred (some []))).alloc (.loop rcd), _, (w.alloc (.deferred (some []))).alloc (.loop rcd), g, _, (w.alloc (.deferred (some []))).alloc (.loop rcd), ?_, hres _ _,
      fun g' _ => fence_fn _ g', hinv _ _, by rw [fence_depth]; simp, fin (by simp) hEE hH2 hb ?_ hW⟩
    · rw [hround]; exact run_enterLoop_outer _ _ _ _ _
    · exact .cons ⟨w.heap.size, 0, hE2.blk _ _ hdb, rfl⟩ (hD.mono hEE)
end Go.Eng
end
section
/- The evaluator is right: regions that draw their order. -/
namespace Go.Eng
open Go.RowKit
variable {E : Env} {ι : Inst} {T : List AV} {H : Heap} {a : Act} {w : World}

/-! ### What an operation looks at -/
theorem ev_set {d : Option Tmp} {v : AV} {x : Operand} (h : ∀ t, d = some t → x ≠ .tmp t) : ev E (setO T d v) x = ev E T x := by
  cases d with
  | none => rfl
  | some t =>
    cases x with
    | tmp u =>
      have : t ≠ u := fun e => h t rfl (by rw [e])
      simp only [ev, setO, List.getElem?_set_ne this]
    | _ => rfl

theorem evs_congr {T T' : List AV} : ∀ {l : List Operand}, (∀ x ∈ l, ev E T x = ev E T' x) → evs E T l = evs E T' l
  | [], _ => rfl
  | x :: l, h => by
    have h1 := evs_congr (T := T) (T' := T') (l := l) fun y hy => h y (List.mem_cons_of_mem _ hy)
    simp only [evs, h x (List.mem_cons_self ..), h1]

theorem evParts_congr {T T' : List AV} : ∀ {l : List (Nat × Operand)}, (∀ x ∈ l, ev E T x.2 = ev E T' x.2) → evParts E T l = evParts E T' l
  | [], _ => rfl
  | (i, x) :: l, h => by
    have h1 := evParts_congr (T := T) (T' := T') (l := l) fun y hy => h y (List.mem_cons_of_mem _ hy)
    have h2 := h (i, x) (List.mem_cons_self ..)
    simp only [evParts, h2, h1]

theorem evO_congr {T T' : List AV} {x : Option Operand} (h : ∀ y, x = some y → ev E T y = ev E T' y) : evO E T x = evO E T' x := by
  cases x with
  | none => rfl
  | some y => simp only [evO, h y rfl]

theorem aop_congr {T T' : List AV} {o : Oper} (h : ∀ x ∈ o.op.operands, ev E T x = ev E T' x) : aop E T H o = aop E T' H o := by
  unfold aop
  cases hop : o.op <;> rw [hop] at h <;> try rfl
  all_goals simp only [Op.operands] at h
  all_goals try dsimp only
  case move x => rw [h x (by simp)]
  case assign x => rw [h x (by simp)]
  case pick c x y => rw [h c (by simp), h x (by simp), h y (by simp)]
  case box t x => rw [h x (by simp)]
  case build t ps => rw [evParts_congr (T' := T') fun x hx => h x.2 (by simp; exact ⟨x.1, by simpa using hx⟩)]
  case buildSlice t n ps => rw [evParts_congr (T' := T') fun x hx => h x.2 (by simp; exact ⟨x.1, by simpa using hx⟩)]
  case load t x => rw [h x (by simp)]
  case store t x y => rw [h x (by simp), h y (by simp)]
  case nilCheck x => rw [h x (by simp)]
  case binOp op t x y u => rw [h x (by simp), h y (by simp)]
  case unOp op t x => rw [h x (by simp)]
  case convert s d x => rw [h x (by simp)]
  case makeFunc f first caps =>
    have : evs E T caps.toList = evs E T' caps.toList := evs_congr fun x hx => h x (by simp at hx ⊢; exact .inr hx)
    cases f <;> first | rfl | (dsimp only; rw [this])
  case fieldAddr s x f => rw [h x (by simp)]
  case field s x f => rw [h x (by simp)]
  case indexAddr t x i => rw [h x (by simp), h i (by simp)]
  case index t x i => rw [h x (by simp), h i (by simp)]
  case slice t x lo hi mx =>
    cases mx with
    | some m => rfl
    | none =>
      dsimp only
      rw [h x (by simp), evO_congr (T' := T') fun y e => h y (by simp [e]), evO_congr (T' := T') (x := hi) fun y e => h y (by simp [e])]
  case extract x i => rw [h x (by simp)]
  case insert t m k x => rw [h m (by simp), h k (by simp), h x (by simp)]
  case makeMap t r => cases r <;> rfl
  case call c =>
    obtain ⟨callee, args, ts⟩ := c
    cases callee with
    | builtin b =>
      have : evs E T args.toList = evs E T' args.toList := evs_congr fun x hx => h x (by simp [Call.operands]; simpa using hx)
      dsimp only
      rw [this]
    | _ => rfl

theorem fexec_congr {T T' : List AV} {o : Oper} (h : ∀ x ∈ o.op.operands, ev E T x = ev E T' x) : fexec E T H o = fexec E T' H o := by
  unfold fexec
  split
  · rename_i f args ts hop
    simp only [hop, Op.operands, Call.operands] at h
    rw [h f (by simp), evs_congr (T' := T') fun x hx => h x (by simp; right; simpa using hx)]
  · exact aop_congr h

theorem aop_keeps {o : Oper} {q : List Prop} {v : AV} {H' : Heap} (hw : writesH o.op = false) (h : aop E T H o = some (q, v, H')) : H' = H := by
  unfold aop at h
  cases hop : o.op <;> rw [hop] at h hw <;> try dsimp only at h
  all_goals try (exfalso; revert hw; simp [writesH]; done)
  all_goals (repeat' split at h) <;> first | (cases h; done) | (simp only [Option.some.injEq, Prod.mk.injEq] at h; exact h.2.2.symm) | contradiction

/-- Where the heap is not looked at, it does not matter. -/
theorem aop_blind {o : Oper} (hr : readsH o.op = false) : aop E T H o = (aop E T [] o).map fun x => (x.1, x.2.1, H) := by
  unfold aop
  cases hop : o.op <;> rw [hop] at hr <;> try dsimp only
  all_goals try (exfalso; revert hr; simp [readsH]; done)
  all_goals (repeat' split) <;> first | rfl | contradiction | skip
end Go.Eng
end
section
/- The evaluator is right: regions that draw their order, all orders. -/
namespace Go.Eng
open Go.RowKit
variable {E : Env} {ι : Inst} {T : List AV} {H : Heap} {a : Act} {w : World} {ops : Array Oper}

/-- What an operation of a region comes to, its guard looked at. -/
def eff (E : Env) (ops : Array Oper) (o : Oper) (T : List AV) (H : Heap) : Option (List Prop × AV × Heap) :=
  match o.guard with
  | none => fexec E T H o
  | some (j, want) => match (ops[j]?).bind (·.dst) with
    | some t => match T[t]? with
      | some (.bool b) => if b = want then fexec E T H o else some ([], .undef, H)
      | some (.tup _) => some ([], .undef, H)
      | _ => none
    | none => none

theorem fexec_keeps {o : Oper} {q : List Prop} {v : AV} {H' : Heap} (hw : writesH o.op = false) (h : fexec E T H o = some (q, v, H')) : H' = H := by
  unfold fexec at h
  split at h
  · (repeat' split at h) <;> first | (cases h; done) | (simp only [Option.some.injEq, Prod.mk.injEq] at h; exact h.2.2.symm)
  · exact aop_keeps hw h

theorem fexec_blind {o : Oper} (hr : readsH o.op = false) : fexec E T H o = (fexec E T [] o).map fun x => (x.1, x.2.1, H) := by
  unfold fexec
  split
  · rename_i hop; rw [hop] at hr; exact absurd hr (by simp [readsH])
  · rename_i h; exact aop_blind hr

theorem eff_keeps {o : Oper} {q : List Prop} {v : AV} {H' : Heap} (hw : writesH o.op = false) (h : eff E ops o T H = some (q, v, H')) : H' = H := by
  unfold eff at h
  split at h
  · exact fexec_keeps hw h
  · split at h
    · split at h
      · split at h
        · exact fexec_keeps hw h
        · simp only [Option.some.injEq, Prod.mk.injEq] at h; exact h.2.2.symm
      · simp only [Option.some.injEq, Prod.mk.injEq] at h; exact h.2.2.symm
      · cases h
    · cases h

theorem eff_blind {o : Oper} (hr : readsH o.op = false) : eff E ops o T H = (eff E ops o T []).map fun x => (x.1, x.2.1, H) := by
  unfold eff
  split
  · exact fexec_blind hr
  · split
    · split
      · split
        · exact fexec_blind hr
        · rfl
      · rfl
      · rfl
    · rfl

theorem mem_looks {o : Oper} {d : Tmp} (h : Operand.tmp d ∈ o.op.operands) : d ∈ o.looksAt ops :=
  List.mem_append_left _ (List.mem_filterMap.2 ⟨.tmp d, by simpa using h, rfl⟩)

theorem eff_set {o : Oper} {d : Option Tmp} {v : AV} (h : ∀ t, d = some t → t ∉ o.looksAt ops) : eff E ops o (setO T d v) H = eff E ops o T H := by
  have h1 : fexec E (setO T d v) H o = fexec E T H o := fexec_congr fun x hx => ev_set fun t ht e => h t ht (mem_looks (e ▸ hx))
  unfold eff
  rw [h1]
  split
  · rfl
  · rename_i j want hg
    split
    · rename_i t ht
      have : (setO T d v)[t]? = T[t]? := by
        cases d with
        | none => rfl
        | some d =>
          have hne : d ≠ t := fun e => h d rfl (by subst e; exact List.mem_append_right _ (by simp [hg, ht]))
          simp only [setO]
          rw [List.getElem?_set_ne hne]
      rw [this]
    · rfl

def sOp (E : Env) (ops : Array Oper) (i : Nat) (K : List AV → Heap → Prop) (T : List AV) (H : Heap) : Prop :=
  match ops[i]? with
  | none => K T H
  | some o => ∃ q v H', eff E ops o T H = some (q, v, H') ∧ holds q ∧ K (setO T o.dst v) H'

theorem sOp_mono {i : Nat} {K K' : List AV → Heap → Prop} (h : ∀ T H, K T H → K' T H) (k : sOp E ops i K T H) : sOp E ops i K' T H := by
  unfold sOp at *
  split
  · rename_i e; rw [e] at k; exact h _ _ k
  · rename_i o e; rw [e] at k
    obtain ⟨q, v, H', h1, h2, h3⟩ := k
    exact ⟨q, v, H', h1, h2, h _ _ h3⟩

/-- T differs from T0 at most where the region's operations write. -/
def Like (ops : Array Oper) (T0 T : List AV) : Prop := ∀ a, (∀ x ∈ ops, x.dst ≠ some a) → T[a]? = T0[a]?

theorem Like.set {T0 : List AV} (h : Like ops T0 T) {i : Nat} {o : Oper} (hi : ops[i]? = some o) (v : AV) : Like ops T0 (setO T o.dst v) := by
  intro a ha
  have hne := ha o (Array.mem_of_getElem? hi)
  cases hd : o.dst with
  | none => exact h a ha
  | some d =>
    rw [hd] at hne
    have : d ≠ a := fun e => hne (by rw [e])
    simp only [setO]
    rw [List.getElem?_set_ne this]
    exact h a ha

theorem sOp_monoL {T0 : List AV} {i : Nat} {K K' : List AV → Heap → Prop} (hl : Like ops T0 T) (h : ∀ T H, Like ops T0 T → K T H → K' T H) (k : sOp E ops i K T H) : sOp E ops i K' T H := by
  unfold sOp at *
  split
  · rename_i e; rw [e] at k; exact h _ _ hl k
  · rename_i o e; rw [e] at k
    obtain ⟨q, v, H', h1, h2, h3⟩ := k
    exact ⟨q, v, H', h1, h2, h _ _ (hl.set e v) h3⟩

theorem setO_comm {d e : Option Tmp} {v u : AV} (h : ∀ t, d = some t → e ≠ some t) : setO (setO T d v) e u = setO (setO T e u) d v := by
  cases d with
  | none => rfl
  | some d =>
    cases e with
    | none => rfl
    | some e =>
      have : d ≠ e := fun x => h d rfl (x ▸ rfl)
      simp only [setO]
      exact List.set_comm _ _ this

def appO (ob : Nat) (u : Option AObj) (H : Heap) : Heap := match u with | some c => H.set ob c | none => H

theorem appO_at {ob j : Nat} {u : Option AObj} (h : ob ≠ j) : (appO ob u H)[j]? = H[j]? := by
  cases u with
  | none => rfl
  | some c => simp only [appO]; rw [List.getElem?_set_ne h]

theorem appO_comm {a b : Nat} {u v : Option AObj} (h : a ≠ b) : appO b v (appO a u H) = appO a u (appO b v H) := by
  cases u <;> cases v <;> first | rfl | skip
  simp only [appO]; exact List.set_comm _ _ h

/-- A load or a store looks at one object alone. -/
theorem fexec_local {T0 : List AV} (hl : Like ops T0 T) {o : Oper} {ob : Nat} (ho : objAt T0 ops o = some ob) {q : List Prop} {v : AV} {H' : Heap} (h : fexec E T H o = some (q, v, H')) :
    ∃ u, H' = appO ob u H ∧ ∀ H2 : Heap, H2[ob]? = H[ob]? → fexec E T H2 o = some (q, v, appO ob u H2) := by
  unfold objAt at ho
  split at ho
  · rename_i t a hop
    split at ho
    · rename_i hall
      have ha : T[a]? = T0[a]? := hl a fun x hx e => by
        have := (Array.all_eq_true_iff_forall_mem.1 hall) x hx
        rw [e] at this; simp at this
      split at ho
      · rename_i ob' p hT
        cases ho
        have hev : ev E T (.tmp a) = some (.ptr ob p) := by simp only [ev, ha, hT]
        have hf : ∀ H2, fexec E T H2 o = aop E T H2 o := fun H2 => by unfold fexec; rw [hop]
        refine ⟨none, ?_, fun H2 hH => ?_⟩
        · exact fexec_keeps (by rw [hop]; rfl) h
        · have hk := fexec_keeps (by rw [hop]; rfl) h
          subst hk
          rw [hf] at h ⊢
          simp only [aop, hop, hev] at h ⊢
          cases ht : E.ty t with
          | none => rw [ht] at h; cases h
          | some d =>
            rw [ht] at h
            simp only [loadA, hH] at h ⊢
            split at h
            · rename_i q' v' hg
              split at h
              · rename_i hc
                simp only [Option.some.injEq, Prod.mk.injEq, and_true] at h
                obtain ⟨rfl, rfl⟩ := h
                simp only [appO]
                rw [if_pos hc]
              · cases h
            · cases h
      · cases ho
    · cases ho
  · rename_i t a x hop
    split at ho
    · rename_i hall
      have ha : T[a]? = T0[a]? := hl a fun x hx e => by
        have := (Array.all_eq_true_iff_forall_mem.1 hall) x hx
        rw [e] at this; simp at this
      split at ho
      · rename_i ob' p hT
        cases ho
        have hev : ev E T (.tmp a) = some (.ptr ob p) := by simp only [ev, ha, hT]
        have hf : ∀ H2, fexec E T H2 o = aop E T H2 o := fun H2 => by unfold fexec; rw [hop]
        rw [hf] at h
        simp only [aop, hop, hev] at h
        split at h
        · rename_i d pv xv hd hpv hx
          cases hpv
          split at h
          · rename_i hc
            split at h
            · rename_i q' H1 hst
              simp only [Option.some.injEq, Prod.mk.injEq] at h
              obtain ⟨rfl, rfl, rfl⟩ := h
              simp only [storeA] at hst
              split at hst
              · rename_i ty vv hob
                split at hst
                · rename_i q2 u2 hg
                  split at hst
                  · rename_i hsz
                    split at hst
                    · rename_i v2 hs
                      simp only [Option.some.injEq, Prod.mk.injEq] at hst
                      obtain ⟨rfl, rfl⟩ := hst
                      refine ⟨some (.cell true ty v2), rfl, fun H2 hH => ?_⟩
                      rw [hf]
                      simp only [aop, hop, hev, hd, hx]
                      rw [if_pos hc]
                      simp only [storeA, hH, hob, hg, if_pos hsz, hs, appO]
                    · cases hst
                  · cases hst
                · cases hst
              · cases hst
            · cases h
          · cases h
        · cases h
      · cases ho
    · cases ho
  · cases ho

theorem eff_local {T0 : List AV} (hl : Like ops T0 T) {o : Oper} {ob : Nat} (ho : objAt T0 ops o = some ob) {q : List Prop} {v : AV} {H' : Heap} (h : eff E ops o T H = some (q, v, H')) :
    ∃ u, H' = appO ob u H ∧ ∀ H2 : Heap, H2[ob]? = H[ob]? → eff E ops o T H2 = some (q, v, appO ob u H2) := by
  have skip : some ([], AV.undef, H) = some (q, v, H') → ∃ u, H' = appO ob u H ∧ ∀ H2 : Heap, H2[ob]? = H[ob]? → some (([] : List Prop), AV.undef, H2) = some (q, v, appO ob u H2) := by
    intro h
    simp only [Option.some.injEq, Prod.mk.injEq] at h
    obtain ⟨rfl, rfl, rfl⟩ := h
    exact ⟨none, rfl, fun H2 _ => rfl⟩
  unfold eff at h ⊢
  split at h
  · exact fexec_local hl ho h
  · split at h
    · split at h
      · split at h
        · rename_i e
          simp only [if_pos e]
          exact fexec_local hl ho h
        · rename_i e
          simp only [if_neg e]
          exact skip h
      · exact skip h
      · cases h
    · cases h

/-- Two operations apart may be exchanged. -/
theorem sOp_swap {T0 : List AV} {i j : Nat} {oi oj : Oper} (hi : ops[i]? = some oi) (hj : ops[j]? = some oj) (hap : apartS T0 ops oi oj = true) (hl : Like ops T0 T) {K : List AV → Heap → Prop} (k : sOp E ops i (sOp E ops j K) T H) : sOp E ops j (sOp E ops i K) T H := by
  simp only [apartS, Bool.and_eq_true, Bool.or_eq_true, Bool.not_eq_true', Bool.and_eq_false_iff] at hap
  obtain ⟨hap, h45⟩ := hap
  obtain ⟨h1, h2, h3⟩ := Oper.apart_spec hap
  simp only [sOp, hi, hj] at k ⊢
  obtain ⟨q, v, H1, e1, hq, q', v', H2, e2, hq', hk⟩ := k
  rw [eff_set h1] at e2
  rcases h45 with h45 | ⟨h4, h5⟩
  · unfold twoObjs at h45
    split at h45
    · rename_i a b ha hb
      have hab : a ≠ b := by simpa using h45
      obtain ⟨u, rfl, k1⟩ := eff_local hl ha e1
      obtain ⟨u', rfl, k2⟩ := eff_local hl hb e2
      have e2' := k2 H (appO_at hab).symm
      have e1' := k1 (appO b u' H) (appO_at (Ne.symm hab))
      exact ⟨q', v', _, e2', hq', q, v, _, by rw [eff_set h3]; exact e1', hq, by rw [← setO_comm h2, appO_comm (Ne.symm hab)]; exact hk⟩
    · cases h45
  rcases h4 with h4 | h4
  · have := eff_keeps h4 e1; subst this
    rcases h5 with h5 | h5
    · have := eff_keeps h5 e2; subst this
      exact ⟨q', v', _, e2, hq', q, v, _, by rw [eff_set h3]; exact e1, hq, by rw [← setO_comm h2]; exact hk⟩
    · rw [eff_blind h5] at e1
      cases h : eff E ops oi T [] with
      | none => rw [h] at e1; cases e1
      | some x =>
        rw [h] at e1
        simp only [Option.map_some, Option.some.injEq, Prod.mk.injEq, and_true] at e1
        obtain ⟨rfl, rfl⟩ := e1
        exact ⟨q', v', _, e2, hq', x.1, x.2.1, H2, by rw [eff_set h3, eff_blind h5, h]; rfl, hq, by rw [← setO_comm h2]; exact hk⟩
  · rw [eff_blind h4] at e2
    cases h : eff E ops oj T [] with
    | none => rw [h] at e2; cases e2
    | some x =>
      rw [h] at e2
      simp only [Option.map_some, Option.some.injEq, Prod.mk.injEq] at e2
      obtain ⟨rfl, rfl, rfl⟩ := e2
      exact ⟨x.1, x.2.1, H, by rw [eff_blind h4, h]; rfl, hq', q, v, _, by rw [eff_set h3]; exact e1, hq, by rw [← setO_comm h2]; exact hk⟩

def anyS (E : Env) (ops : Array Oper) (go : List AV → Heap → Prop) : Nat → Array Bool → List AV → Heap → Prop
  | 0, listed, T, H => Region.ready .any ops listed = [] ∧ go T H
  | fuel + 1, listed, T, H => (Region.ready .any ops listed = [] → go T H) ∧ ∀ i ∈ Region.ready .any ops listed, sOp E ops i (anyS E ops go fuel (listed.setIfInBounds i true)) T H

/-- Each of D waits for the i-th or for another of D. -/
def Waits (ops : Array Oper) (i : Nat) (D : List Nat) : Prop := ∀ j ∈ D, ∃ oj, ops[j]? = some oj ∧ ∃ e ∈ oj.after, Region.binds .any e = true ∧ (e.on = i ∨ e.on ∈ D)

theorem depsFrom_waits {i : Nat} : ∀ (js acc : List Nat), Waits ops i acc → Waits ops i (depsFrom ops i js acc)
  | [], _, h => h
  | j :: js, acc, h => by
    simp only [depsFrom]
    refine depsFrom_waits js _ ?_
    split
    · rename_i oj hoj
      split
      · rename_i hc
        rw [Array.any_eq_true'] at hc
        obtain ⟨e, he, hb⟩ := hc
        simp only [Bool.and_eq_true, Bool.or_eq_true, beq_iff_eq, List.contains_iff_mem] at hb
        intro k hk
        rcases List.mem_cons.1 hk with rfl | hk
        · exact ⟨oj, hoj, e, he, hb.1, hb.2.imp id (List.mem_cons_of_mem _)⟩
        · obtain ⟨ok, h1, e', h2, h3, h4⟩ := h k hk
          exact ⟨ok, h1, e', h2, h3, h4.imp id (List.mem_cons_of_mem _)⟩
      · exact h
    · exact h

theorem anyS_first {T0 : List AV} {go : List AV → Heap → Prop} {i : Nat} {oi : Oper} {D : List Nat} (hi : ops[i]? = some oi) (hD : Waits ops i D) : ∀ (fuel : Nat) (listed : Array Bool) (T : List AV) (H : Heap), Like ops T0 T →
    (∀ j ∈ D, listed.getD j true = false) →
    (∀ j oj, ops[j]? = some oj → j ≠ i → listed.getD j true = false → j ∉ D → apartS T0 ops oi oj = true) →
    i ∈ Region.ready .any ops listed → sOp E ops i (anyS E ops go fuel (listed.setIfInBounds i true)) T H → anyS E ops go (fuel + 1) listed T H := by
  intro fuel
  induction fuel with
  | zero =>
    intro listed T H _ _ _ hr k
    refine ⟨fun h => (by rw [h] at hr; cases hr), fun j hj => ?_⟩
    by_cases hji : j = i
    · subst hji; exact k
    · have := ready_mono hj hji
      simp only [sOp, hi] at k
      obtain ⟨_, _, _, _, _, hn, _⟩ := k
      rw [hn] at this
      cases this
  | succ fuel ih =>
    intro listed T H hlk hun hfree hr k
    refine ⟨fun h => (by rw [h] at hr; cases hr), fun j hj => ?_⟩
    by_cases hji : j = i
    · subst hji; exact k
    · obtain ⟨hjun, oj, hoj, hall⟩ := mem_ready.1 hj
      have notyet : ∀ m, listed.getD m true = false → listed.getD m false = true → False := fun m h0 h1 => by
        rcases Nat.lt_or_ge m listed.size with h' | h'
        · simp [h'] at h0 h1; rw [h0] at h1; cases h1
        · simp [Array.getElem?_eq_none h'] at h1
      have hnD : j ∉ D := fun hjD => by
        obtain ⟨oj', h1, e, he, hb, hon⟩ := hD j hjD
        rw [hoj] at h1; cases h1
        have h1 := hall e he hb
        rcases hon with hon | hon
        · rw [hon] at h1; exact notyet i (mem_ready.1 hr).1 h1
        · exact notyet _ (hun _ hon) h1
      have k1 : sOp E ops i (sOp E ops j (anyS E ops go fuel ((listed.setIfInBounds i true).setIfInBounds j true))) T H :=
        sOp_mono (fun T H h => h.2 j (ready_mono hj hji)) k
      have k2 := sOp_swap hi hoj (hfree j oj hoj hji hjun hnD) hlk k1
      have hun' : ∀ m ∈ D, (listed.setIfInBounds j true).getD m true = false := fun m hm => by
        have hjm : j ≠ m := fun e => hnD (by rw [e]; exact hm)
        rw [getD_set_ne true hjm]; exact hun m hm
      have hfree' : ∀ k ok, ops[k]? = some ok → k ≠ i → (listed.setIfInBounds j true).getD k true = false →
          k ∉ D → apartS T0 ops oi ok = true := fun k ok hk hki hun hno => by
        refine hfree k ok hk hki ?_ hno
        by_cases hjk : j = k
        · subst hjk; exact hjun
        · rw [getD_set_ne true hjk] at hun; exact hun
      refine sOp_monoL hlk (fun T H hlk h3 => ih (listed.setIfInBounds j true) T H hlk hun' hfree' (ready_mono hr (Ne.symm hji)) ?_) k2
      rw [Array.setIfInBounds_comm _ _ hji]
      exact h3

def lexS (E : Env) (ops : Array Oper) (go : List AV → Heap → Prop) : List Oper → List AV → Heap → Prop
  | [], T, H => go T H
  | o :: l, T, H => ∃ q v H', eff E ops o T H = some (q, v, H') ∧ holds q ∧ lexS E ops go l (setO T o.dst v) H'

theorem set_self {t : Nat} {b : Bool} (h : T[t]? = some (.bool b)) : T.set t (.bool b) = T := by
  apply List.ext_getElem?
  intro i
  rw [List.getElem?_set]
  split
  · rename_i e; subst e
    split
    · exact h.symm
    · rename_i hlt; rw [List.getElem?_eq_none (by omega)]
  · rfl

theorem lexS_of_draw {go : List AV → Heap → Prop} : ∀ (l : List Oper) (T : List AV) (H : Heap), drawA E ops.toList l T H go → lexS E ops go l T H
  | [], _, _, h => h
  | o :: l, T, H, h => by
    unfold drawA at h
    simp only [lexS, eff]
    split at h
    · rename_i hg
      split at h
      · rename_i q v H' hx
        obtain ⟨hq, h⟩ := obl_ok h
        exact ⟨q, v, H', by simp only [hg]; exact hx, hq, lexS_of_draw l _ _ h⟩
      · cases h
    · rename_i j want hg
      split at h
      · rename_i t ht
        have ht' : (ops[j]?).bind (·.dst) = some t := by simpa using ht
        split at h
        · rename_i b hb
          simp only [hg, ht', hb]
          by_cases hbw : b = want
          · subst hbw
            simp only [beq_self_eq_true, cond_true, set_self hb] at h
            split at h
            · rename_i q v H' hx
              obtain ⟨hq, h⟩ := obl_ok h
              exact ⟨q, v, H', by rw [if_pos rfl]; exact hx, hq, lexS_of_draw l _ _ h⟩
            · cases h
          · have hb2 : b = !want := by cases b <;> cases want <;> simp_all
            have hb3 : (b == want) = false := by simp [hbw]
            rw [hb3] at h
            simp only [cond_false] at h
            rw [← hb2, set_self hb] at h
            exact ⟨[], .undef, H, by rw [if_neg hbw], trivial, lexS_of_draw l _ _ h⟩
        · rename_i vs hb
          exact ⟨[], .undef, H, by simp only [hg, ht', hb], trivial, lexS_of_draw l _ _ h⟩
        · cases h
      · cases h

theorem freeS_spec {T0 : List AV} {listed : Array Bool} {i : Nat} {oi : Oper} (hi : ops[i]? = some oi) (h : freeS T0 ops listed i = true) :
    (∀ j ∈ deps ops i, listed.getD j true = false) ∧ ∀ j oj, ops[j]? = some oj → j ≠ i → listed.getD j true = false → j ∉ deps ops i → apartS T0 ops oi oj = true := by
  unfold freeS freeWith at h
  rw [hi] at h
  simp only [Bool.and_eq_true, List.all_eq_true, List.mem_range, Bool.not_eq_true'] at h
  refine ⟨h.1, fun j oj hj hji hl hno => ?_⟩
  have hlt : j < ops.size := by
    rcases Nat.lt_or_ge j ops.size with h' | h'
    · exact h'
    · rw [Array.getElem?_eq_none h'] at hj; cases hj
  have := h.2 j hlt
  simp only [hj, hl, Bool.or_false, Bool.or_eq_true, beq_iff_eq, hji, false_or, List.contains_iff_mem] at this
  exact this.resolve_left hno

theorem anyS_lex {T0 : List AV} {go : List AV → Heap → Prop} : ∀ (l : List Oper) (k : Nat) (listed : Array Bool) (T : List AV) (H : Heap), Like ops T0 T → (∀ j, l[j]? = ops[k + j]?) →
    lexFromS T0 ops l.length k listed = true → lexS E ops go l T H → anyS E ops go l.length listed T H
  | [], k, listed, T, H, _, _, hB, h => ⟨by simpa [lexFromS] using hB, h⟩
  | o :: l, k, listed, T, H, hlk, hl, hB, h => by
    have h0 : ops[k]? = some o := by simpa using (hl 0).symm
    simp only [List.length_cons, lexFromS, Bool.and_eq_true] at hB
    obtain ⟨⟨hr, hf⟩, hB'⟩ := hB
    refine anyS_first h0 (depsFrom_waits _ _ (by intro j hj; cases hj)) l.length listed T H hlk (freeS_spec h0 hf).1 (freeS_spec h0 hf).2 (by simpa using hr) ?_
    simp only [sOp, h0]
    obtain ⟨q, v, H', e, hq, hk⟩ := h
    exact ⟨q, v, H', e, hq, anyS_lex l (k + 1) _ _ _ (hlk.set h0 v) (fun j => by have := hl (j + 1); simpa [Nat.add_assoc, Nat.add_comm 1 j] using this) hB' hk⟩

/-! ### Back to the model -/
theorem fexec_ok (hV : E.Valid) (hS : ∀ f sp, E.spec f = some sp → SpecOk E f sp) {o : Oper} {q : List Prop} {v : AV} {H' : Heap} {k : FK} {n : Nat} (h : fexec E T H o = some (q, v, H')) (hq : holds q) (r : ARel E ι T H a w)
    {next : Act → World → Prop} {Q' : Exit → Act → World → Prop} (hn : ∀ ι' w' c, Ext ι ι' → HRel ι' H' w' → RepV ι' v c → next (a.put o.dst c) w') : o.wpIn (fenceOf ι k) n E.P a w next Q' := by
  unfold fexec at h
  split at h
  · rename_i f args ts hop
    split at h
    · rename_i g caps vs hf ha
      obtain ⟨l, hfe, hall⟩ := evs_fn r hf ha
      have hrun : (o.semAt (fenceOf ι k).round a.eval).run E.P w = (callFunc g (args.toList.map a.eval ++ l).toArray).run E.P w := by
        rw [semAt_call hop]; exact call_run hop hfe
      split at h
      · rename_i sp hsp
        split at h
        · rename_i hfl
          split at h
          · rename_i q1 us hv
            split at h
            · rename_i x hx
              simp only [Option.some.injEq, Prod.mk.injEq] at h; obtain ⟨rfl, rfl, rfl⟩ := h
              rw [holds_app] at hq
              obtain ⟨hq, hp, _⟩ := hq
              refine upon_callOk (R := fun c w' => ∃ ι', Ext ι ι' ∧ HRel ι' H w' ∧ RepV ι' (resV sp.n sp.cod (sp.f x)) c) rfl ?_ hrun ?_
              · simp only [Bool.or_eq_true, List.isEmpty_iff] at hfl
                rcases hfl with hfl | hfl
                · exact spec_flat (hS _ _ hsp) hfl hv hq hx hp r.heap r.glob hall
                · exact spec_full (hS _ _ hsp) (H' := H) (by rw [hfl]; rfl) hv hq hx hp r.heap r.glob hall
              · rintro c w' ⟨ι', hE, hH, hr⟩
                exact hn _ _ _ hE hH hr
            · cases h
          · cases h
        · cases h
      · cases h
    · cases h
  · obtain ⟨ι', w', c, hE, hH, hr, hrun⟩ := aop_ok hV h hq r
    refine ⟨fun g _ => fence_fn _ g, ?_⟩
    rw [Oper.semAt_eq _ _ _ (aop_noDefer h)]
    rcases hrun with hrun | ⟨hrun, rfl⟩
    · rw [hrun]; exact hn _ _ _ hE hH hr
    · rw [hrun]; exact hn _ _ _ hE hH hr
end Go.Eng
end
section
/- The evaluator is right: its step, its runs, contracts out of runs. -/
namespace Go.Eng
open Go.RowKit
variable {E : Env} {ι : Inst} {T : List AV} {H : Heap} {a : Act} {w : World} {ops : Array Oper}

theorem tup_undef (vs : List AV) {c : Value} (h : RepV ι (.tup vs) c) : ∃ l : List Value, c = .tuple l.toArray := by
  obtain ⟨l, e, _⟩ := h; exact ⟨l, e⟩

theorem about_value {o : Oper} {k : FK} : ∀ f, o.about E.P w a.eval = some f → (fenceOf ι k).fn f := fun f _ => fence_fn k f

theorem any_ok (hV : E.Valid) (hS : ∀ f sp, E.spec f = some sp → SpecOk E f sp) {k : FK} {n : Nat} {D : List Nat} {go : List AV → Heap → Prop} {Q : Exit → Act → World → Prop} {ι0 : Inst} (hk : KOk ι0 k)
    (hgo : ∀ T H, go T H → ∀ ι a w, Ext ι0 ι → ARel E ι T H a w → DRel ι D a.defers → Q .normal a w) :
    ∀ (fuel : Nat) (listed : Array Bool) (T : List AV) (H : Heap) (ι : Inst) (a : Act) (w : World), Ext ι0 ι → ARel E ι T H a w → DRel ι D a.defers → anyS E ops go fuel listed T H →
      wpAnyIn (fenceOf ι0 k) n E.P .any ops Q fuel listed a w
  | 0, _, _, _, _, _, _, hE, r, hD, h => ⟨h.1, hgo _ _ h.2 _ _ _ hE r hD⟩
  | fuel + 1, listed, T, H, ι, a, w, hE, r, hD, h => by
    refine ⟨fun h0 => hgo _ _ (h.1 h0) _ _ _ hE r hD, fun i hi => ?_⟩
    have h1 := h.2 i hi
    unfold sOp at h1
    unfold wpOpIn
    have hf : fenceOf ι k = fenceOf ι0 k := fenceOf_ext hE hk
    have ih := any_ok hV hS (n := n) hk hgo fuel (listed.setIfInBounds i true)
    cases ho : ops[i]? with
    | none => rw [ho] at h1; exact ih T H ι a w hE r hD h1
    | some o =>
      rw [ho] at h1
      obtain ⟨q, v, H', he, hq, hK⟩ := h1
      have hnext : ∀ ι' w' c, Ext ι ι' → HRel ι' H' w' → RepV ι' v c → wpAnyIn (fenceOf ι0 k) n E.P .any ops Q fuel (listed.setIfInBounds i true) (a.put o.dst c) w' := fun ι' w' c hE' hH hc =>
        ih _ _ ι' _ _ (hE.trans hE') ⟨hH, put_rel (All2.imp (fun _ _ => RepV_mono hE') r.tmps) hc, r.glob.mono hE'⟩ (by rw [put_defers]; exact hD.mono hE') hK
      have hab : ∀ f, o.about E.P w a.eval = some f → (fenceOf ι0 k).fn f := fun f _ => fence_fn k f
      unfold eff at he
      split at he
      · rename_i hg
        dsimp only
        rw [if_pos (wanted_none hg), ← hf]
        rw [← hf] at hnext
        exact fexec_ok hV hS he hq r hnext
      · rename_i j want hg
        split at he
        · rename_i t ht
          have ht' : (ops.toList[j]?).bind (·.dst) = some t := by simpa using ht
          have hy : ∀ c, a.tmps.toList[t]? = some c → yielded ops a.tmps j = boolOf c := fun c hc => yielded_at (all := ops.toList) ht' hc
          split at he
          · rename_i b hb
            obtain ⟨c, hc, hr⟩ := r.tmps.at t _ hb
            have hyb := hy c hc
            rw [hr.bool] at hyb
            dsimp only [boolOf] at hyb ⊢
            split at he
            · rename_i hbw
              have hw : Region.wanted o (yielded ops a.tmps) = true := by simp [Region.wanted, hg, hyb, hbw]
              rw [if_pos hw, ← hf]
              rw [← hf] at hnext
              exact fexec_ok hV hS he hq r hnext
            · rename_i hbw
              have hw : ¬ Region.wanted o (yielded ops a.tmps) = true := by simp [Region.wanted, hg, hyb, hbw]
              simp only [Option.some.injEq, Prod.mk.injEq] at he; obtain ⟨rfl, rfl, rfl⟩ := he
              rw [if_neg hw]
              exact ⟨hab, hnext ι w undef (Ext.refl ι) r.heap RepV_undef⟩
          · rename_i vs hb
            obtain ⟨c, hc, hr⟩ := r.tmps.at t _ hb
            obtain ⟨l, rfl⟩ := tup_undef _ hr
            have hyb := hy _ hc
            dsimp only [boolOf] at hyb ⊢
            have hw : ¬ Region.wanted o (yielded ops a.tmps) = true := by simp [Region.wanted, hg, hyb]
            simp only [Option.some.injEq, Prod.mk.injEq] at he; obtain ⟨rfl, rfl, rfl⟩ := he
            rw [if_neg hw]
            exact ⟨hab, hnext ι w undef (Ext.refl ι) r.heap RepV_undef⟩
          · cases he
        · cases he

theorem region_ok (hV : E.Valid) (hS : ∀ f sp, E.spec f = some sp → SpecOk E f sp) {k : FK} {n : Nat} {D : List Nat} {go : List AV → Heap → Prop} {Q : Exit → Act → World → Prop} (hk : KOk ι k)
    (hgo : ∀ T H, go T H → ∀ ι' a w, Ext ι ι' → ARel E ι' T H a w → DRel ι' D a.defers → Q .normal a w) (r : ARel E ι T H a w) (hD : DRel ι D a.defers) {id : Nat} (hl : lexOK T ops = true)
    (h : drawA E ops.toList ops.toList T H go) : (Code.region id ops true).wpIn (fenceOf ι k) n E.P Q a w := by
  simp only [lexOK, Bool.and_eq_true] at hl
  refine wpIn_region_any hV.mixed (any_ok hV hS hk hgo _ _ T H ι a _ (Ext.refl ι) ⟨r.heap.drew _, r.tmps, r.glob⟩ hD ?_)
  have := anyS_lex (ops := ops) (T0 := T) ops.toList 0 (Array.replicate ops.size false) T H (fun _ _ => rfl) (by simp) (by simpa using hl.2) (lexS_of_draw _ _ _ h)
  simpa using this

theorem condT_rel {c : Operand} {b b' : Bool} (hb : b = b') (r : ARel E ι T H a w) (hc : ev E T c = some (.bool b)) : ARel E ι (condT T c b') H a w := by
  cases c with
  | tmp t => exact ⟨r.heap, set_bool hb r.tmps hc, r.glob⟩
  | _ => exact r

/-! ### What is kept at a loop's head -/
def Inst.ren (ι : Inst) (l : List Nat) : Inst := { ι with blk := l.map fun o => (ι.blk[o]?).getD (0, 0) }

theorem posL_spec {o : Nat} : ∀ {l : List Nat} {i j : Nat}, posL l i o = some j → ∃ k, j = i + k ∧ l[k]? = some o
  | [], _, _, h => by cases h
  | x :: l, i, j, h => by
    simp only [posL] at h
    split at h
    · rename_i e
      cases h
      exact ⟨0, rfl, by simpa using e⟩
    · obtain ⟨k, e, h⟩ := posL_spec h
      exact ⟨k + 1, by omega, by simpa using h⟩

theorem pos_blk {l : List Nat} {o j : Nat} {x : Nat × Nat} (h : posL l 0 o = some j) (e : ι.blk[o]? = some x) : (ι.ren l).blk[j]? = some x := by
  obtain ⟨k, ek, h⟩ := posL_spec h
  have : j = k := by omega
  subst this
  simp [Inst.ren, h, e]

theorem fix_blk {l : List Nat} {o : Nat} {x : Nat × Nat} (h : fixB l o = true) (e : ι.blk[o]? = some x) : (ι.ren l).blk[o]? = some x := by
  unfold fixB at h
  split at h
  · rename_i j hj
    have : j = o := by simpa using h
    subst this
    exact pos_blk hj e
  · cases h

theorem RepD_ren (l : List Nat) : ∀ (c : TC) (x : c.den) (cs : List Value), RepD ι c x cs → RepD (ι.ren l) c x cs := fun c x cs k => RepD_data (ι := ι) (ι' := ι.ren l) c (.inr fun _ _ h => h) x cs k

mutual
theorem Rep_ren (l : List Nat) : ∀ (v u : AV) (cs : List Value), renV l v = some u → Rep ι v cs → Rep (ι.ren l) u cs
  | .int _ _, _, _, h, k => by cases h; rw [Rep] at *; exact k
  | .bool _, _, _, h, k => by cases h; rw [Rep] at *; exact k
  | .str _, _, _, h, k => by cases h; rw [Rep] at *; exact k
  | .raw _, _, _, h, k => by cases h; rw [Rep] at *; exact k
  | .agg ss vs, _, _, h, k => by
    simp only [renV] at h
    split at h
    · rename_i us hu; cases h; rw [Rep] at *; exact RepL_ren l ss vs us _ hu k
    · cases h
  | .arr n c xs, _, _, h, k => by cases h; rw [Rep] at *; exact RepD_ren l (.arr n c) xs _ k
  | .tup _, _, _, _, k => by rw [Rep] at k; exact k.elim
  | .any, _, _, _, k => by rw [Rep] at k; exact k.elim
  | .ptr o p, _, _, h, k => by
    simp only [renV] at h
    split at h
    · rename_i j hj; cases h; rw [Rep] at *; obtain ⟨b, z, e, k⟩ := k; exact ⟨b, z, pos_blk hj e, k⟩
    · cases h
  | .ref v, _, _, h, k => by
    simp only [renV] at h
    split at h
    · rename_i u hu; cases h; rw [Rep] at *; obtain ⟨b, off, cells, t, fz, m, e1, e2, e3, e4⟩ := k
      exact ⟨b, off, cells, t, fz, m, e1, e2, Rep_ren l v u m hu e3, e4⟩
    · cases h
  | .fsl c xs, _, _, h, k => by cases h; rw [Rep] at *; exact RepD_ren l (.slice c) xs _ k
  | .osl o p s off len cap, _, _, h, k => by
    simp only [renV] at h
    split at h
    · rename_i j hj; cases h; rw [Rep] at *; obtain ⟨b, z, kk, e, k⟩ := k; exact ⟨b, z, kk, pos_blk hj e, k⟩
    · cases h
  | .fn f caps, _, _, h, k => by
    simp only [renV] at h
    split at h
    · rename_i us hu; cases h; rw [Rep] at *; obtain ⟨e, m, e2, k⟩ := k
      have hl := renVs_len l caps us hu
      refine ⟨renVs_agg l caps us hu e, m, e2, ?_⟩
      rw [hl]
      exact RepL_ren l _ caps us m hu k
    · cases h
  | .yld o, _, _, h, k => by
    simp only [renV] at h
    split at h
    · rename_i j hj; cases h; rw [Rep] at *; obtain ⟨b, z, e, k⟩ := k; exact ⟨b, z, pos_blk hj e, k⟩
    · cases h
  | .mp o, _, _, h, k => by
    simp only [renV] at h
    split at h
    · rename_i j hj; cases h; rw [Rep] at *; obtain ⟨b, z, e, k⟩ := k; exact ⟨b, z, pos_blk hj e, k⟩
    · cases h
theorem RepL_ren (l : List Nat) : ∀ (ss : List Nat) (vs us : List AV) (cs : List Value), renVs l vs = some us → RepL ι ss vs cs → RepL (ι.ren l) ss us cs
  | _, [], _, _, h, k => by cases h; rw [RepL] at *; exact k
  | ss, v :: vs, _, cs, h, k => by
    simp only [renVs] at h
    split at h
    · rename_i u us h1 h2
      cases h
      rw [RepL] at *; obtain ⟨s, ss', m, m', e1, e2, e3, k1, k2⟩ := k
      exact ⟨s, ss', m, m', e1, e2, e3, Rep_ren l v u m h1 k1, RepL_ren l ss' vs us m' h2 k2⟩
    · cases h
theorem renVs_len (l : List Nat) : ∀ (vs us : List AV), renVs l vs = some us → us.length = vs.length
  | [], _, h => by cases h; rfl
  | v :: vs, _, h => by
    simp only [renVs] at h
    split at h
    · rename_i u us h1 h2; cases h; simp [renVs_len l vs us h2]
    · cases h
theorem renV_agg (l : List Nat) : ∀ (v u : AV), renV l v = some u → aggB u = aggB v
  | .agg ss vs, _, h => by simp only [renV] at h; split at h <;> cases h; rfl
  | .tup vs, _, h => by simp only [renV] at h; split at h <;> cases h; rfl
  | .ptr o p, _, h => by simp only [renV] at h; split at h <;> cases h; rfl
  | .osl o p s off len cap, _, h => by simp only [renV] at h; split at h <;> cases h; rfl
  | .fn f cs, _, h => by simp only [renV] at h; split at h <;> cases h; rfl
  | .yld o, _, h => by simp only [renV] at h; split at h <;> cases h; rfl
  | .mp o, _, h => by simp only [renV] at h; split at h <;> cases h; rfl
  | .ref v, _, h => by simp only [renV] at h; split at h <;> cases h; rfl
  | .int _ _, _, h => by cases h; rfl
  | .bool _, _, h => by cases h; rfl
  | .str _, _, h => by cases h; rfl
  | .raw _, _, h => by cases h; rfl
  | .arr _ _ _, _, h => by cases h; rfl
  | .fsl _ _, _, h => by cases h; rfl
  | .any, _, h => by cases h; rfl
theorem renVs_agg (l : List Nat) : ∀ (vs us : List AV), renVs l vs = some us → vs.all (fun v => !aggB v) = true → us.all (fun v => !aggB v) = true
  | [], _, h, _ => by cases h; rfl
  | v :: vs, _, h, k => by
    simp only [renVs] at h
    split at h
    · rename_i u us h1 h2; cases h
      simp only [List.all_cons, Bool.and_eq_true] at k ⊢
      exact ⟨by rw [renV_agg l v u h1]; exact k.1, renVs_agg l vs us h2 k.2⟩
    · cases h
end

theorem RepV0_ren {l : List Nat} {v u : AV} {c : Value} (h : renV l v = some u) (k : RepV0 ι v c) : RepV0 (ι.ren l) u c := by
  unfold RepV0 at *
  rw [renV_agg (ι := ι) l v u h]
  split
  · rename_i e; rw [if_pos e] at k; obtain ⟨cs, k, e⟩ := k; exact ⟨cs, Rep_ren l v u cs h k, e⟩
  · rename_i e; rw [if_neg e] at k; exact Rep_ren l v u [c] h k

theorem RepV0s_ren {l : List Nat} : ∀ {vs us : List AV} {cs : List Value}, renVs l vs = some us → All2 (RepV0 ι) vs cs → All2 (RepV0 (ι.ren l)) us cs
  | [], _, _, h, k => by cases h; cases k; exact .nil
  | v :: vs, _, _, h, k => by
    simp only [renVs] at h
    split at h
    · rename_i u us h1 h2
      cases h
      obtain ⟨c, cs, rfl, k1, k2⟩ := k.cons_inv
      exact .cons (RepV0_ren h1 k1) (RepV0s_ren h2 k2)
    · cases h

theorem RepV_ren {l : List Nat} {v u : AV} {c : Value} (h : renV l v = some u) (k : RepV ι v c) : RepV (ι.ren l) u c := by
  by_cases hn : ntB v = true
  · have h0 := RepV0_ren h ((RepV_iff hn).1 k)
    refine (RepV_iff ?_).2 h0
    cases v <;> simp only [renV] at h <;> (try (split at h)) <;> cases h <;> first | rfl | cases hn
  · cases v <;> first | exact absurd rfl hn | skip
    · rename_i vs
      simp only [renV] at h
      split at h
      · rename_i us hu
        cases h
        obtain ⟨m, e, k⟩ := k
        exact ⟨m, e, RepV0s_ren hu k⟩
      · cases h
    · cases h; trivial

theorem RepVs_ren {l : List Nat} : ∀ {vs us : List AV} {cs : List Value}, renVs l vs = some us → All2 (RepV ι) vs cs → All2 (RepV (ι.ren l)) us cs
  | [], _, _, h, k => by cases h; cases k; exact .nil
  | v :: vs, _, _, h, k => by
    simp only [renVs] at h
    split at h
    · rename_i u us h1 h2
      cases h
      obtain ⟨c, cs, rfl, k1, k2⟩ := k.cons_inv
      exact .cons (RepV_ren h1 k1) (RepVs_ren h2 k2)
    · cases h

theorem keepL_same : ∀ (ks : List Nat) (i : Nat) {T : List AV} {cs : List Value}, All2 (RepV ι) T cs → All2 (RepV ι) (keepL ks i T) cs
  | _, _, [], _, k => by cases k; simp only [keepL]; exact .nil
  | [], i, v :: T, _, k => by
    obtain ⟨c, cs, rfl, k1, k2⟩ := k.cons_inv
    simp only [keepL]
    exact .cons trivial (keepL_same [] (i + 1) k2)
  | kk :: ks, i, v :: T, _, k => by
    obtain ⟨c, cs, rfl, k1, k2⟩ := k.cons_inv
    unfold keepL
    split
    · exact .cons k1 (keepL_same ks (i + 1) k2)
    · exact .cons trivial (keepL_same (kk :: ks) (i + 1) k2)

theorem mask_rel {f : FuncId} {id : Nat} {cs : List Value} (h : All2 (RepV ι) T cs) : All2 (RepV ι) (maskT E f id T) cs := by
  unfold maskT
  split
  · exact keepL_same _ _ h
  · exact h

theorem mask_ok {Q : AV → Heap → Prop} {fr : Fr} {stk : List Fr} {f : FuncId} {id : Nat} (h : WW E Q { fr with T := maskT E f id fr.T } stk H) : WW E Q fr stk H :=
  fun n ι a w r hD hk => h n ι a w ⟨r.heap, mask_rel r.tmps, r.glob⟩ hD hk

theorem RepE_ren {l : List Nat} : ∀ {es fs : List (AV × AV)} {cs : List MapEntry}, renE l es = some fs → All2 (fun (e : AV × AV) (c : MapEntry) => RepV0 ι e.1 c.key ∧ RepV0 ι e.2 c.val) es cs →
    All2 (fun (e : AV × AV) (c : MapEntry) => RepV0 (ι.ren l) e.1 c.key ∧ RepV0 (ι.ren l) e.2 c.val) fs cs
  | [], _, _, h, k => by cases h; cases k; exact .nil
  | e :: es, _, _, h, k => by
    simp only [renE] at h
    split at h
    · rename_i a b r h1 h2 h3
      cases h
      obtain ⟨c, cs, rfl, k1, k2⟩ := k.cons_inv
      exact .cons ⟨RepV0_ren h1 k1.1, RepV0_ren h2 k1.2⟩ (RepE_ren h3 k2)
    · cases h

theorem cutO_rel {b z : Nat} {ks : List Nat} {x : AObj} (k : ObjRel ι w b z x) : ObjRel ι w b z (cutO ks x) := by
  cases x with
  | loop s pend fn T ps asg body dfr =>
    obtain ⟨tmps, db, dz, fn', e1, e2, e3⟩ := k
    exact ⟨tmps, db, dz, fn', e1, keepL_same ks 0 e2, e3⟩
  | _ => exact k

theorem renO_rel {l : List Nat} {b z : Nat} : ∀ {x y : AObj}, renO l x = some y → ObjRel ι w b z x → ObjRel (ι.ren l) w b z y
  | .dead, _, h, _ => by cases h; trivial
  | .cell own t v, _, h, k => by
    simp only [renO] at h
    split at h
    · rename_i u hu; cases h
      obtain ⟨cells, fz, m, r, e1, e2, e3, e4, e5⟩ := k
      exact ⟨cells, fz, m, r, e1, e2, e3, Rep_ren l v u m hu e4, e5⟩
    · cases h
  | .map es, _, h, k => by
    simp only [renO] at h
    split at h
    · rename_i r hr; cases h
      obtain ⟨ents, clock, e1, e2⟩ := k
      exact ⟨ents, clock, e1, RepE_ren hr e2⟩
    · cases h
  | .loop s pend fn T ps asg body dfr, _, h, k => by
    simp only [renO] at h
    split at h
    · rename_i T' j hT hj; cases h
      obtain ⟨tmps, db, dz, fn', e1, e2, e3⟩ := k
      exact ⟨tmps, db, dz, fn', e1, RepVs_ren hT e2, pos_blk hj e3⟩
    · cases h
  | .dfd, _, h, k => by cases h; exact k

theorem renO_owned {l : List Nat} {x y : AObj} (h : renO l x = some y) : y.owned = x.owned := by
  cases x <;> simp only [renO] at h <;> (try (split at h)) <;> cases h <;> rfl

theorem cutX_cases (g : Cut) (o : Nat) (x : AObj) : cutX g o x = .dead ∨ cutX g o x = x ∨ ∃ ks, cutX g o x = cutO ks x := by
  unfold cutX
  split
  · exact .inl rfl
  · split
    · exact .inr (.inr ⟨_, rfl⟩)
    · exact .inr (.inl rfl)

theorem cutH_at {g : Cut} {l : List Nat} : ∀ {os : List Nat} {H' : Heap} {i : Nat} {y : AObj}, cutH g l H os = some H' → H'[i]? = some y → ∃ o x, os[i]? = some o ∧ H[o]? = some x ∧ renO l (cutX g o x) = some y
  | [], _, _, _, h, e => by cases h; simp at e
  | o :: os, _, i, y, h, e => by
    simp only [cutH] at h
    split at h
    · rename_i x hx
      split at h
      · rename_i y' r h1 h2
        cases h
        cases i with
        | zero =>
          simp only [List.getElem?_cons_zero, Option.some.injEq] at e
          subst e
          exact ⟨o, x, rfl, hx, h1⟩
        | succ i =>
          obtain ⟨o', x', k1, k2, k3⟩ := cutH_at h2 (by simpa using e)
          exact ⟨o', x', by simpa using k1, k2, k3⟩
      · cases h
    · cases h

theorem cutH_len {g : Cut} {l : List Nat} : ∀ {os : List Nat} {H' : Heap}, cutH g l H os = some H' → H'.length = os.length
  | [], _, h => by cases h; rfl
  | o :: os, _, h => by
    simp only [cutH] at h
    split at h
    · split at h
      · rename_i y' r h1 h2; cases h; simp [cutH_len h2]
      · cases h
    · cases h

theorem nodup_inj : ∀ {l : List Nat} {i j o : Nat}, nodupB l = true → l[i]? = some o → l[j]? = some o → i = j
  | [], _, _, _, _, h, _ => by simp at h
  | x :: l, i, j, o, hn, h1, h2 => by
    simp only [nodupB, Bool.and_eq_true, Bool.not_eq_true'] at hn
    have hx : ∀ k : Nat, l[k]? = some x → False := fun k e => by
      have : l.contains x = true := by simpa using List.mem_of_getElem? e
      rw [hn.1] at this; cases this
    cases i with
    | zero =>
      simp only [List.getElem?_cons_zero, Option.some.injEq] at h1
      subst h1
      cases j with
      | zero => rfl
      | succ j => exact (hx j (by simpa using h2)).elim
    | succ i =>
      cases j with
      | zero =>
        simp only [List.getElem?_cons_zero, Option.some.injEq] at h2
        subst h2
        exact (hx i (by simpa using h1)).elim
      | succ j => rw [nodup_inj (i := i) (j := j) (o := o) hn.2 (by simpa using h1) (by simpa using h2)]

theorem first_at : ∀ {n i k : Nat} {l : List Nat}, firstB n i l = true → k < n → l[k]? = some (i + k)
  | 0, _, _, _, _, h => by omega
  | n + 1, i, k, [], h, _ => by cases h
  | n + 1, i, k, x :: l, h, hk => by
    simp only [firstB, Bool.and_eq_true, beq_iff_eq] at h
    cases k with
    | zero => simp [h.1]
    | succ k =>
      have := first_at h.2 (show k < n by omega)
      simpa [Nat.add_assoc, Nat.add_comm 1 k] using this

theorem heap_cut {g : Cut} {l : List Nat} {H' : Heap} (r : HRel ι H w) (hn : nodupB l = true) (h : cutH g l H l = some H') : HRel (ι.ren l) H' w := by
  have look : ∀ {i : Nat} {y : AObj} {b z : Nat}, H'[i]? = some y → (ι.ren l).blk[i]? = some (b, z) →
      ∃ o x, l[i]? = some o ∧ H[o]? = some x ∧ ι.blk[o]? = some (b, z) ∧ renO l (cutX g o x) = some y := by
    intro i y b z e1 e2
    obtain ⟨o, x, k1, k2, k3⟩ := cutH_at h e1
    obtain ⟨b', z', hb⟩ := r.blk_some k2
    have : (ι.ren l).blk[i]? = some (b', z') := by simp [Inst.ren, k1, hb]
    rw [this] at e2; cases e2
    exact ⟨o, x, k1, k2, hb, k3⟩
  have own : ∀ {o : Nat} {x y : AObj}, renO l (cutX g o x) = some y → y.owned = true → x.owned = true := by
    intro o x y hr ho
    rw [renO_owned hr] at ho
    rcases cutX_cases g o x with e | e | ⟨ks, e⟩ <;> rw [e] at ho
    · cases ho
    · exact ho
    · cases x <;> exact ho
  refine ⟨by rw [cutH_len h]; simp [Inst.ren], r.prot, ?_, ?_, ?_, r.base⟩
  · intro i y b z e1 e2
    obtain ⟨o, x, k1, k2, k3, hr⟩ := look e1 e2
    have ho := r.obj _ _ _ _ k2 k3
    refine renO_rel hr ?_
    rcases cutX_cases g o x with e | e | ⟨ks, e⟩ <;> rw [e]
    · trivial
    · exact ho
    · exact cutO_rel ho
  · intro i y b z e1 ho e2
    obtain ⟨o, x, k1, k2, k3, hr⟩ := look e1 e2
    exact r.own _ _ _ _ k2 (own hr ho) k3
  · intro i j y y' b z z' e1 o1 e2 o2 b1 b2
    obtain ⟨o, x, k1, k2, k3, hx⟩ := look e1 b1
    obtain ⟨o', x', m1, m2, m3, hy⟩ := look e2 b2
    have := r.sep _ _ _ _ _ _ _ k2 (own hx o1) m2 (own hy o2) k3 m3
    subst this
    exact nodup_inj hn k1 m1

theorem renD_rel {l : List Nat} : ∀ {D D' : List Nat} {ds : List Deferred}, renD l D = some D' → DRel ι D ds → DRel (ι.ren l) D' ds
  | [], _, _, h, k => by cases h; cases k; exact .nil
  | d :: D, _, _, h, k => by
    simp only [renD] at h
    split at h
    · rename_i j r h1 h2
      cases h
      obtain ⟨c, cs, rfl, k1, k2⟩ := All2.cons_inv k
      obtain ⟨b, z, e1, e2⟩ := k1
      exact .cons ⟨b, z, pos_blk h1 e1, e2⟩ (renD_rel h2 k2)
    · cases h

theorem wpIts_ren {ι ι' : Inst} {l : List Nat} {F : Fence} {n : Nat} {P : Program} {Q Q' : Exit → Act → World → Prop} (hb : ∀ (i : Nat) x, fixB l i = true → ι.blk[i]? = some x → ι'.blk[i]? = some x) (hq : ∀ e a w, Q e a w → Q' e a w) :
    ∀ (k : List It), itsB l k = true → ∀ (e : Exit) (a : Act) (w : World), wpIts ι' F n P Q k e a w → wpIts ι F n P Q' k e a w
  | [], _, e, a, w, h => hq _ _ _ h
  | it :: k, hm, e, a, w, h => by
    cases it with
    | code c =>
      have ih := wpIts_ren (F := F) (n := n) (P := P) hb hq k hm
      cases e <;> first | exact ih _ _ _ h | exact wpIn_mono h ih
    | lp c =>
      have ih := wpIts_ren (F := F) (n := n) (P := P) hb hq k hm
      cases e <;> first | exact ih _ _ _ h | exact LoopI.mono ih h
    | ops all rest =>
      have ih := wpIts_ren (F := F) (n := n) (P := P) hb hq k hm
      cases e <;> first | exact ih _ _ _ h | exact wpListIn_mono ih _ _ _ h
    | blk id =>
      have ih := wpIts_ren (F := F) (n := n) (P := P) hb hq k hm
      cases e <;> first | exact ih _ _ _ h | skip
      simp only [wpIts] at h ⊢
      split
      · rename_i e; rw [if_pos e] at h; exact ih _ _ _ h
      · rename_i e; rw [if_neg e] at h; exact ih _ _ _ h
    | begin o =>
      simp only [itsB, Bool.and_eq_true] at hm
      have ih := wpIts_ren (F := F) (n := n) (P := P) hb hq k hm.2
      cases e <;> first | exact h | skip
      intro b z e
      obtain ⟨w₂, h1, h2⟩ := h b z (hb _ _ hm.1 e)
      exact ⟨w₂, h1, ih _ _ _ h2⟩
    | fin o =>
      simp only [itsB, Bool.and_eq_true] at hm
      have ih := wpIts_ren (F := F) (n := n) (P := P) hb hq k hm.2
      cases e <;> first | exact h | skip
      intro b z e
      obtain ⟨j, w₄, h1, h2⟩ := h b z (hb _ _ hm.1 e)
      refine ⟨j, w₄, h1, ?_⟩
      cases j with
      | none => exact ih _ _ _ h2
      | some c => exact wpIn_mono h2 ih

theorem cutWith_ok {Q : AV → Heap → Prop} {g : Cut} {l : List Nat} {fr fr' : Fr} {stk : List Fr} {H' : Heap} (hc : cutWith g l fr H = some (fr', H')) (h : WW E Q fr' stk H') : WW E Q fr stk H := by
  unfold cutWith at hc
  split at hc
  · rename_i hb
    simp only [Bool.and_eq_true] at hb
    obtain ⟨⟨⟨h3, h4⟩, h5⟩, h6⟩ := hb
    split at hc
    · rename_i T2 D2 H2 hT hDr hH
      simp only [Option.some.injEq, Prod.mk.injEq] at hc
      obtain ⟨rfl, rfl⟩ := hc
      intro n ι a w r hD hk
      have hk' : KOk (ι.ren l) fr.kind := by
        cases hkd : fr.kind with
        | round l dst =>
          rw [hkd] at hk h3
          obtain ⟨b, z, e⟩ := hk
          exact ⟨b, z, fix_blk h3 e⟩
        | _ => trivial
      have hf : fenceOf (ι.ren l) fr.kind = fenceOf ι fr.kind := by
        cases hkd : fr.kind with
        | round l dst =>
          rw [hkd] at hk h3
          obtain ⟨b, z, e⟩ := hk
          simp only [fenceOf, blockOf, fix_blk h3 e, e]
        | _ => rfl
      have hw := h n (ι.ren l) a w ⟨heap_cut r.heap h5 hH, RepVs_ren hT (keepL_same _ _ r.tmps), fun gl v e => r.glob gl v e⟩ (renD_rel hDr hD) hk'
      simp only [hf] at hw
      refine wpIts_ren (l := l) (fun i x hi e => fix_blk hi e) ?_ _ h4 _ _ _ hw
      rintro e a w ⟨ι2, T, D, H2, hE, k⟩
      refine ⟨ι2, T, D, H2, ⟨hE.w0, hE.prot, fun i x hi e => hE.blk i x hi ?_, hE.old⟩, k⟩
      have := first_at h6 hi
      rw [Nat.zero_add] at this
      simp [Inst.ren, this, e]
    · cases hc
  · cases hc

theorem cut_ok {Q : AV → Heap → Prop} {g : Cut} {fr fr' : Fr} {stk : List Fr} {H' : Heap} (hc : cutF g fr H = some (fr', H')) (h : WW E Q fr' stk H') : WW E Q fr stk H := cutWith_ok hc h

/-- One step of the evaluator is right. -/
theorem stepR_ok (hV : E.Valid) (hS : ∀ f sp, E.spec f = some sp → SpecOk E f sp) {stop : FuncId → Nat → Nat → Option Cut} {Q : AV → Heap → Prop} {K : Cfg} (hK : ∀ fr stk H, K fr stk H → WW E Q fr stk H) {fr : Fr} {stk : List Fr}
    (h : stepR E stop Q (WW E Q) K fr stk H) : WW E Q fr stk H := by
  unfold stepR at h
  split at h
  · -- a loop's head
    rename_i c k hit
    split at h
    · split at h
      · rename_i fr' H' hc; exact cut_ok hc h
      · cases h
    · refine frame_items (k' := .code c :: .lp c :: k) (hK _ _ _ h) fun n ι F a w r hw => ?_
      rw [hit]
      exact LoopI.fold (wpIn_mono hw fun e a w h => wpIts_lp _ _ _ h)
  · rename_i id k hit
    refine frame_items (k' := k) (hK _ _ _ h) fun n ι F a w r hw => ?_
    rw [hit]; exact hw
  · -- the begin of a round
    rename_i l k hit
    split at h
    · rename_i p f T0 ps ca cb d hl
      intro n ι a w r hD hk
      rw [hit]
      intro b z hb
      obtain ⟨tmps', db, dz, fn', hobj, hT', hdb⟩ := r.heap.obj _ _ _ _ hl hb
      refine ⟨_, run_beginRound (P := E.P) hobj rfl, ?_⟩
      have hH := r.heap.upd (w' := w.putObj b (.loop { state := .busy, pending := p, fn := fn', tmps := tmps', params := ps.toArray, assign := ca, body := cb, defers := db })) (x' := .loop .busy p f T0 ps ca cb d) hl rfl hb (fun k hk => World.putObj_heap_other hk) (by simp) rfl rfl rfl
        ⟨tmps', db, dz, fn', World.putObj_heap_same (Array.getElem?_eq_some_iff.1 hobj).1, hT', hdb⟩
      exact hK _ _ _ h n ι a _ ⟨hH, r.tmps, r.glob⟩ hD hk
    · cases h
  · -- the end of a loop
    rename_i l k hit
    split at h
    · rename_i s p f T0 ps ca cb d hl
      split at h
      · cases h
      · rename_i hs
        have hs' : s ≠ .busy := fun e => hs (by rw [e]; rfl)
        intro n ι a w r hD hk
        rw [hit]
        intro b z hb
        obtain ⟨tmps', db, dz, fn', hobj, hT', hdb⟩ := r.heap.obj _ _ _ _ hl hb
        refine ⟨_, _, run_endLoop (P := E.P) hobj hs', ?_⟩
        have hH := r.heap.upd (w' := w.putObj b (.loop { state := .exhausted, pending := p, fn := fn', tmps := tmps', params := ps.toArray, assign := ca, body := cb, defers := db })) (x' := .loop .exhausted p f T0 ps ca cb d) hl rfl hb (fun k hk => World.putObj_heap_other hk) (by simp) rfl rfl rfl
          ⟨tmps', db, dz, fn', World.putObj_heap_same (Array.getElem?_eq_some_iff.1 hobj).1, hT', hdb⟩
        dsimp only
        split at h
        · exact hK _ _ _ h n ι a _ ⟨hH, r.tmps, r.glob⟩ hD hk
        · exact hK _ _ _ h n ι a _ ⟨hH, r.tmps, r.glob⟩ hD hk
    · cases h
  · -- a region's end
    rename_i all k hit
    refine frame_items (k' := k) (hK _ _ _ h) fun n ι F a w r hw => ?_
    rw [hit]; exact hw
  · -- an operation
    rename_i all o rest k hit
    intro n ι a w r hD hk
    rw [hit]
    have hgo : ∀ (T : List AV) (T' : List AV) (H' : Heap), K { fr with T := T', items := .ops all rest :: k } stk H' → FrameW E { ({ fr with T := T, items := .ops all rest :: k } : Fr) with T := T' } (KW E Q stk fr.kind fr.id) H' := fun T T' H' hk => hK _ _ _ hk
    have hab : ∀ f, o.about E.P w a.eval = some f → (fenceOf ι fr.kind).fn f := fun f _ => fence_fn _ f
    change wpListIn (fenceOf ι fr.kind) n E.P all.toArray (wpIts ι (fenceOf ι fr.kind) n E.P (lift E fr.base ι (KW E Q stk fr.kind fr.id)) k) (o :: rest) a w
    unfold wpListIn
    split at h
    · rename_i hg
      rw [if_pos (wanted_none hg)]
      exact exec_ok hV hS hK (hgo fr.T) h r hD hk _
    · rename_i j want hg
      split at h
      · rename_i t ht
        split at h
        · rename_i b hb
          obtain ⟨c, hc, hr⟩ := r.tmps.at t _ hb
          have hyb := yielded_at ht hc
          rw [hr.bool] at hyb
          dsimp only [boolOf] at hyb
          rcases cond_split h with ⟨hbw, h⟩ | ⟨hbw, h⟩
          · have hbw' : b = want := by simpa using hbw
            have hw : Region.wanted o (yielded all.toArray a.tmps) = true := by simp [Region.wanted, hg, hyb, hbw']
            rw [if_pos hw]
            exact exec_ok hV hS hK (hgo _) h ⟨r.heap, set_bool hbw' r.tmps hb, r.glob⟩ hD hk _
          · have hbw' : b = !want := by cases b <;> cases want <;> simp_all
            have hw : ¬ Region.wanted o (yielded all.toArray a.tmps) = true := by simp [Region.wanted, hg, hyb, hbw']
            rw [if_neg hw]
            refine ⟨hab, ?_⟩
            exact next_ok (fr := { fr with items := .ops all rest :: k }) (hK _ _ _ h) (Ext.refl ι) r.heap RepV_undef (set_bool hbw' r.tmps hb) r.glob hD hk
        · rename_i vs hb
          obtain ⟨c, hc, hr⟩ := r.tmps.at t _ hb
          obtain ⟨l, rfl⟩ := tup_undef _ hr
          have hyb := yielded_at ht hc
          dsimp only [boolOf] at hyb
          have hw : ¬ Region.wanted o (yielded all.toArray a.tmps) = true := by simp [Region.wanted, hg, hyb]
          rw [if_neg hw]
          refine ⟨hab, ?_⟩
          exact next_ok (fr := { fr with items := .ops all rest :: k }) (hK _ _ _ h) (Ext.refl ι) r.heap RepV_undef r.tmps r.glob hD hk
        · cases h
      · cases h
  · -- code
    rename_i c0 k hit
    split at h
    · refine frame_items (k' := k) (hK _ _ _ h) fun n ι F a w r hw => ?_
      rw [hit]; exact wpIn_skip hw
    · refine frame_items (k' := k) (hK _ _ _ h) fun n ι F a w r hw => ?_
      rw [hit]; exact wpIn_label hw
    · rename_i x y
      refine frame_items (k' := .code x :: .code y :: k) (hK _ _ _ h) fun n ι F a w r hw => ?_
      rw [hit]; exact wpIn_seq (wpIn_mono hw wpIts_code)
    · rename_i c t e
      split at h
      · rename_i b hb
        rcases cond_split h with ⟨hbt, h⟩ | ⟨hbt, h⟩
        · intro n ι a w r hD hk
          rw [hit]
          exact wpIn_cond (t := true) (by rw [(ev_ok hb r).bool, hbt]) (hK _ _ _ h n ι a w (condT_rel hbt r hb) hD hk)
        · intro n ι a w r hD hk
          rw [hit]
          exact wpIn_cond (t := false) (by rw [(ev_ok hb r).bool, hbt]) (hK _ _ _ h n ι a w (condT_rel hbt r hb) hD hk)
      · cases h
    · rename_i id c
      refine frame_items (k' := .code c :: .blk id :: k) (hK _ _ _ h) fun n ι F a w r hw => ?_
      rw [hit]; exact wpIn_block (wpIn_mono hw wpIts_blk)
    · rename_i b
      refine frame_items (k' := .lp b :: k) (hK _ _ _ h) fun n ι F a w r hw => ?_
      rw [hit]; exact LoopI.wpIn hw
    · rename_i id ops draw
      refine mask_ok (f := fr.id) (id := id) ?_
      dsimp only at h
      split at h
      · rename_i hdr
        subst hdr
        split at h
        · rename_i hl
          intro n ι a w r hD hk
          rw [hit]
          refine region_ok hV hS (D := fr.D) hk ?_ r hD hl h
          intro T' H' hK' ι' a' w' hE r' hD'
          have h2 := hK _ _ _ hK' n ι' a' w' r' hD' (hk.mono hE)
          have hf : fenceOf ι' fr.kind = fenceOf ι fr.kind := fenceOf_ext hE hk
          simp only [hf] at h2
          exact wpIts_mono hE.blk (lift_ext hE) _ _ _ _ h2
        · cases h
      · rename_i hdr
        have : draw = false := by simpa using hdr
        subst this
        refine frame_items (k' := .ops ops.toList ops.toList :: k) (hK _ _ _ h) fun n ι F a w r hw => ?_
        rw [hit]
        refine wpIn_region_list ?_
        simpa [wpIts] using hw
    · rename_i f ps asg body
      split at h
      · rename_i g caps hf
        split at h
        · rename_i fn hfn
          split at h
          · rename_i c hc
            split at h
            · rename_i l0 dst hkind
              split at h
              · rename_i s p f' T' ps' a' b' d hl0
                exact range_ok hV hit hf hfn hc (.inl ⟨l0, dst, s, p, f', T', ps', a', b', d, hkind, hl0, hK _ _ _ h⟩)
              · cases h
            · rename_i hnr
              exact range_ok hV hit hf hfn hc (.inr ⟨fun l0 dst e => hnr l0 dst e, hK _ _ _ h⟩)
          · cases h
        · cases h
      · cases h
    · rename_i id
      split at h
      · rename_i k' hb
        refine frame_items (k' := k') (hK _ _ _ h) fun n ι F a w r hw => ?_
        rw [hit]; exact wpIn_exit (wpIts_exit hb hw)
      · rename_i hb
        split at h
        · rename_i ht
          intro n ι a w r hD hk
          rw [hit]
          exact wpIn_exit (wpIts_leave (.inr ⟨id, rfl, hb⟩) ht ⟨ι, fr.T, fr.D, H, ExtB.refl _ ι, r, hD, leave_ok hK rfl h⟩)
        · cases h
    · split at h
      · rename_i ht
        intro n ι a w r hD hk
        rw [hit]
        exact wpIn_ret (wpIts_leave (.inl rfl) ht ⟨ι, fr.T, fr.D, H, ExtB.refl _ ι, r, hD, leave_ok hK rfl h⟩)
      · cases h
    · cases h
  · rename_i hit
    intro n ι a w r hD hk
    rw [hit]
    exact ⟨ι, fr.T, fr.D, H, ExtB.refl _ ι, r, hD, leave_ok hK rfl h⟩

theorem run_ok (hV : E.Valid) (hS : ∀ f sp, E.spec f = some sp → SpecOk E f sp) {stop : FuncId → Nat → Nat → Option Cut} {Q : AV → Heap → Prop} : ∀ (n : Nat) (fr : Fr) (stk : List Fr) (H : Heap), run E stop Q (WW E Q) n fr stk H → WW E Q fr stk H
  | 0, _, _, _, h => h
  | n + 1, _, _, _, h => stepR_ok hV hS (fun _ _ _ => run_ok hV hS n _ _ _) h

/-- A loop whose head is met once more than its body runs. -/
theorem loop_unfold {Q : AV → Heap → Prop} {fr : Fr} {stk : List Fr} {c : Code} {k : List It} (hit : fr.items = .lp c :: k) (h : WW E Q { fr with items := .code c :: .lp c :: k } stk H) : WW E Q fr stk H := by
  refine frame_items (k' := .code c :: .lp c :: k) h fun n ι F a w r hw => ?_
  rw [hit]
  exact LoopI.fold (wpIn_mono hw fun e a w h => wpIts_lp _ _ _ h)

/-- The answers as data. -/
def backR (n : Nat) (c : TC) (v : AV) : Option c.den :=
  if n = 1 then c.back.1 v else if n = 0 then (match v with | .tup [] => some c.dflt | _ => none) else match v with | .tup vs => c.back.2 vs | _ => none

theorem backR_ok {n : Nat} {c : TC} {v : AV} {r : c.den} {u : Value} (h : backR n c v = some r) (k : RepV ι v u) : RepV ι (resV n c r) u := by
  unfold backR at h
  unfold resV
  split at h
  · rename_i e; rw [if_pos e]; exact RepV_back h k
  · rename_i e; rw [if_neg e]
    split at h
    · rename_i e0; rw [if_pos e0]
      split at h
      · exact k
      · cases h
    · rename_i e0; rw [if_neg e0]
      split at h
      · rename_i vs
        obtain ⟨l, rfl, kl⟩ := k
        exact ⟨l, rfl, (All2_V0 (both_nt c r)).2 (args_back c vs r l h (All2.imp (fun _ _ => RepV_of0) kl))⟩
      · cases h

def finQ (n : Nat) (c : TC) (Q : c.den → Prop) (v : AV) : Prop := match backR n c v with | some r => Q r | none => False

/-- A contract out of a run. -/
theorem spec_of_run (hV : E.Valid) {f : FuncId} {sp : Spec} {fn : Func} {c : Code} (hf : E.fns f = some fn) (hc : fn.body = some c)
    (h : ∀ x, sp.pre x → WW E (fun v _ => finQ sp.n sp.cod (fun r => r = sp.f x) v) { id := f, kind := .top, T := entT fn (argsOf sp.dom x), items := [.code c], D := [], base := 0 } [] []) : SpecOk E f sp := by
  intro x w pr args hp hpr hg ha
  refine .inr ⟨callFunc_enter hV hf hc _, ?_⟩
  have hH : HRel ⟨w, pr, []⟩ [] w := ⟨rfl, hpr, fun i x b z h => by simp at h, fun i x b z h => by simp at h, fun i j x y b z z' h => by simp at h, Below.refl _ _⟩
  refine (callsIn_wide.1 (body_ok (n := 0) hV (β := 0) rfl hf hc (.inl rfl) (h x hp) hH hg ha (R := fun e w' => ∃ v, e = .returned v ∧ _) ?_))
  rintro e T' D' H' ⟨⟨j, hj, hret⟩, fn', H'', q, v, h1, h2, h3, h4, h5⟩
  refine ⟨isRet_cases hj hret, fn', H'', q, v, h1, h2, h3, h4, fun ι1 u w' hE1 hH1 hu1 => ⟨u, rfl, ?_⟩⟩
  obtain ⟨q2, v2, H2, hv2, hq2, h5⟩ := h5
  obtain ⟨ι', hE2, hH', hu⟩ := viewT_ok hv2 hq2 hH1 hu1
  have hE := hE1.trans hE2
  have hw0 : ι'.w0 = w := hE.w0
  have hB := hH'.base
  rw [hw0] at hB
  refine ⟨hB, ?_⟩
  unfold finQ at h5
  split at h5
  case h_2 => cases h5
  rename_i r hr
  subst h5
  refine resV_data (.inr ?_) (backR_ok hr hu)
  intro b o e
  simp only [protUp]
  split
  · rename_i hb
    have := hE.old b hb
    rw [← e, this]
  · exact hH'.prot b o e
end Go.Eng
end
section
/- Trees: what a stretch of code comes to, written out; contracts out of walks. -/
namespace Go.Eng
open Go.RowKit

inductive Tr (α : Type) where
  | ret (a : α)
  | need (p : Prop) (t : Tr α)
  | ite (b : Bool) (t e : Tr α)
  | fail (a : α)

def Tr.wp {α : Type} : Tr α → (α → Prop) → Prop
  | .ret a, Q => Q a
  | .need p t, Q => p ∧ t.wp Q
  | .ite b t e, Q => cond b (t.wp Q) (e.wp Q)
  | .fail _, _ => False

/-- The tree comes to 'a'. -/
def Tr.gives {α : Type} (t : Tr α) (a : α) : Prop := t.wp (fun x => x = a)

theorem Tr.wp_mono {α : Type} {Q Q' : α → Prop} (h : ∀ a, Q a → Q' a) : ∀ {t : Tr α}, t.wp Q → t.wp Q'
  | .ret _, k => h _ k
  | .need _ t, k => ⟨k.1, Tr.wp_mono h (t := t) k.2⟩
  | .ite b t e, k => by
    cases b with
    | true => exact Tr.wp_mono h (t := t) k
    | false => exact Tr.wp_mono h (t := e) k
  | .fail _, k => k.elim

/-- The tree, and what is behind its jumps, comes to 'r'. -/
inductive Ends {J α : Type} (step : J → Tr (J ⊕ α)) (r : α) : Tr (J ⊕ α) → Prop where
  | ret : Ends step r (.ret (.inr r))
  | jump (j : J) (h : Ends step r (step j)) : Ends step r (.ret (.inl j))
  | need (p : Prop) (t : Tr (J ⊕ α)) (hp : p) (h : Ends step r t) : Ends step r (.need p t)
  | yes (t e : Tr (J ⊕ α)) (h : Ends step r t) : Ends step r (.ite true t e)
  | no (t e : Tr (J ⊕ α)) (h : Ends step r e) : Ends step r (.ite false t e)

structure Head where
  fr : Fr
  stk : List Fr
  H : Heap

/-- The head, its loop's body laid out once. -/
def Fr.enter (fr : Fr) : Fr :=
  match fr.items with
  | .lp c :: k => { fr with items := .code c :: .lp c :: k }
  | _ => fr

theorem enter_ok {E : Env} {Q : AV → Heap → Prop} {fr : Fr} {stk : List Fr} {H : Heap} (h : WW E Q fr.enter stk H) : WW E Q fr stk H := by
  unfold Fr.enter at h
  split at h
  · rename_i c k hit; exact loop_unfold hit h
  · exact h

def kont {J α : Type} (W : Cfg) (Q : α → Prop) (head : J → Head) : J ⊕ α → Prop
  | .inl j => W (head j).fr (head j).stk (head j).H
  | .inr r => Q r

def startFr (f : FuncId) (fn : Func) (c : Code) (args : List AV) : Fr := { id := f, kind := .top, T := entT fn args, items := [.code c], D := [], base := 0 }

theorem ends_walk {E : Env} {J α : Type} {Q : AV → Heap → Prop} {Qr : α → Prop} {step : J → Tr (J ⊕ α)} {head : J → Head} {r : α} (hr : Qr r)
    (hstep : ∀ j, (step j).wp (kont (WW E Q) Qr head) → WW E Q (head j).fr.enter (head j).stk (head j).H) : ∀ {t : Tr (J ⊕ α)}, Ends step r t → t.wp (kont (WW E Q) Qr head) := by
  intro t h
  induction h with
  | ret => exact hr
  | jump j _ ih => exact enter_ok (hstep j ih)
  | need p t hp _ ih => exact ⟨hp, ih⟩
  | yes t e _ ih => exact ih
  | no t e _ ih => exact ih

/-- A contract out of its walk: no loops. -/
theorem spec_of_tree {E : Env} (hV : E.Valid) (hS : ∀ f sp, E.spec f = some sp → SpecOk E f sp) {f : FuncId} {sp : Spec} {fn : Func} {c : Code} (hf : E.fns f = some fn) (hc : fn.body = some c) {stop : FuncId → Nat → Nat → Option Cut} {N : Nat}
    (tree : sp.dom.den → Tr sp.cod.den) (hw : ∀ (W : Cfg) (Q : sp.cod.den → Prop) (x : sp.dom.den), run E stop (fun v _ => finQ sp.n sp.cod Q v) W N (startFr f fn c (argsOf sp.dom x)) [] [] = (tree x).wp Q)
    (hx : ∀ x, sp.pre x → (tree x).gives (sp.f x)) : SpecOk E f sp :=
  spec_of_run hV hf hc fun x hp => run_ok (stop := stop) hV hS N _ _ _ (by
    have h := hw (WW E (fun v _ => finQ sp.n sp.cod (fun r => r = sp.f x) v)) (fun r => r = sp.f x) x
    unfold startFr at h
    rw [h]
    exact hx x hp)

/-- A contract out of its walks: with loops. -/
theorem spec_of_trees {E : Env} (hV : E.Valid) (hS : ∀ f sp, E.spec f = some sp → SpecOk E f sp) {f : FuncId} {sp : Spec} {fn : Func} {c : Code} (hf : E.fns f = some fn) (hc : fn.body = some c) {stop : FuncId → Nat → Nat → Option Cut} {N : Nat} {J : Type}
    (entry : sp.dom.den → Tr (J ⊕ sp.cod.den)) (step : sp.dom.den → J → Tr (J ⊕ sp.cod.den)) (head : sp.dom.den → J → Head)
    (h1 : ∀ (W : Cfg) (Q : sp.cod.den → Prop) (x : sp.dom.den), run E stop (fun v _ => finQ sp.n sp.cod Q v) W N (startFr f fn c (argsOf sp.dom x)) [] [] = (entry x).wp (kont W Q (head x)))
    (h2 : ∀ (W : Cfg) (Q : sp.cod.den → Prop) (x : sp.dom.den) (j : J), run E stop (fun v _ => finQ sp.n sp.cod Q v) W N (head x j).fr.enter (head x j).stk (head x j).H = (step x j).wp (kont W Q (head x)))
    (hx : ∀ x, sp.pre x → Ends (step x) (sp.f x) (entry x)) : SpecOk E f sp :=
  spec_of_run hV hf hc fun x hp => run_ok (stop := stop) hV hS N _ _ _ (by
    have h := h1 (WW E (fun v _ => finQ sp.n sp.cod (fun r => r = sp.f x) v)) (fun r => r = sp.f x) x
    unfold startFr at h
    rw [h]
    refine ends_walk (Q := fun v _ => finQ sp.n sp.cod (fun r => r = sp.f x) v) (Qr := fun r => r = sp.f x) rfl (fun j hj => ?_) (hx x hp)
    refine run_ok (stop := stop) hV hS N _ _ _ ?_
    rw [h2 (WW E (fun v _ => finQ sp.n sp.cod (fun r => r = sp.f x) v)) (fun r => r = sp.f x) x j]
    exact hj)

/-! ### Tables -/
theorem SpecOk.env {E E' : Env} (hP : E'.P = E.P) (hg : ∀ g v, E.glob g = some v → E'.glob g = some v) {f : FuncId} {sp : Spec} (h : SpecOk E f sp) : SpecOk E' f sp := by
  intro x w pr args hp hpr hgr ha
  rw [hP]
  exact h x w pr args hp hpr (fun g v e => hgr g v (hg g v e)) ha

/-! ### Functions out of trees -/
def Tr.ok {α : Type} (t : Tr α) : Prop := t.wp fun _ => True

def Tr.val {α : Type} : Tr α → α
  | .ret a => a
  | .need _ t => t.val
  | .ite b t e => cond b t.val e.val
  | .fail a => a

theorem Tr.gives_val {α : Type} : ∀ {t : Tr α}, t.ok → t.gives t.val
  | .ret _, _ => rfl
  | .need _ t, h => ⟨h.1, Tr.gives_val (t := t) h.2⟩
  | .ite b t e, h => by
    cases b with
    | true => exact Tr.gives_val (t := t) h
    | false => exact Tr.gives_val (t := e) h
  | .fail _, h => h.elim

theorem Ends.unique {J α : Type} {step : J → Tr (J ⊕ α)} {r r' : α} {t : Tr (J ⊕ α)} (h : Ends step r t) (h' : Ends step r' t) : r = r' := by
  induction h with
  | ret => cases h'; rfl
  | jump j _ ih => cases h' with | jump _ h' => exact ih h'
  | need p t hp _ ih => cases h' with | need _ _ _ h' => exact ih h'
  | yes t e _ ih => cases h' with | yes _ _ h' => exact ih h'
  | no t e _ ih => cases h' with | no _ _ h' => exact ih h'

open Classical in
noncomputable def endVal {J α : Type} (d : α) (step : J → Tr (J ⊕ α)) (t : Tr (J ⊕ α)) : α := if h : ∃ r, Ends step r t then h.choose else d

theorem endVal_ends {J α : Type} {d : α} {step : J → Tr (J ⊕ α)} {t : Tr (J ⊕ α)} (h : ∃ r, Ends step r t) : Ends step (endVal d step t) t := by
  unfold endVal; rw [dif_pos h]; exact h.choose_spec

theorem endVal_eq {J α : Type} {d : α} {step : J → Tr (J ⊕ α)} {t : Tr (J ⊕ α)} {r : α} (h : Ends step r t) : endVal d step t = r := (endVal_ends ⟨r, h⟩).unique h

/-! ### Places in code -/
def bodyOf (fn : Func) : Code := fn.body.getD .skip

def subc : List Nat → Code → Code
  | [], c => c
  | i :: p, c => match c with
    | .seq a b => subc p (if i == 0 then a else b)
    | .cond _ a b => subc p (if i == 0 then a else b)
    | .block _ a => subc p a
    | .loop a => subc p a
    | .rangeFunc _ _ a b => subc p (if i == 0 then a else b)
    | c => c

def opsOf : Code → List Oper
  | .region _ ops _ => ops.toList
  | _ => []

/-! ### Ground values: zeros, tables -/
def groundD : (c : TC) → c.den → Option (List Value)
  | .int k, n => some [.int k n]
  | .bool, b => some [.bool b]
  | .str, s => some [.string s]
  | .unit, _ => some []
  | .st a r, x => match groundD a x.1, groundD r x.2 with | some l, some m => some (l ++ m) | _, _ => none
  | .st1 a, x => groundD a x
  | .slice _, xs => match xs with | [] => some [.slice none 0 0] | _ => none
  | .arr n c, xs => if xs.length = n then groundAll (groundD c) xs else none
  | .ref _, _ => none
where groundAll {α : Type} (f : α → Option (List Value)) : List α → Option (List Value)
  | [] => some []
  | x :: xs => match f x, groundAll f xs with | some l, some m => some (l ++ m) | _, _ => none

theorem groundAll_ok {α : Type} {f : α → Option (List Value)} {R : α → List Value → Prop} (h : ∀ x l, f x = some l → R x l) : ∀ {xs : List α} {l : List Value}, groundD.groundAll f xs = some l → RepAll R xs l
  | [], _, e => by cases e; exact .nil
  | x :: xs, _, e => by
    simp only [groundD.groundAll] at e
    split at e
    · rename_i l m h1 h2; cases e; exact .cons (h _ _ h1) (groundAll_ok h h2)
    · cases e

theorem groundD_ok (ι : Inst) : ∀ (c : TC) (x : c.den) (cs : List Value), groundD c x = some cs → RepD ι c x cs
  | .int _, _, _, h => by cases h; rfl
  | .bool, _, _, h => by cases h; rfl
  | .str, _, _, h => by cases h; rfl
  | .unit, _, _, h => by cases h; rfl
  | .st a r, x, _, h => by
    simp only [groundD] at h
    split at h
    · rename_i l m h1 h2; cases h; exact ⟨l, m, rfl, groundD_ok ι a _ _ h1, groundD_ok ι r _ _ h2⟩
    · cases h
  | .st1 a, x, _, h => groundD_ok ι a x _ h
  | .slice _, xs, _, h => by
    cases xs with
    | nil => cases h; exact ⟨_, rfl, .inl ⟨rfl, .inl rfl⟩⟩
    | cons => cases h
  | .arr n c, xs, _, h => by
    simp only [groundD] at h
    split at h
    · rename_i hn; exact ⟨hn, groundAll_ok (groundD_ok ι c) h⟩
    · cases h
  | .ref _, _, _, h => by cases h

mutual
def ground : AV → Option (List Value)
  | .int k n => some [.int k n]
  | .bool b => some [.bool b]
  | .str s => some [.string s]
  | .raw v => if v.oneCell' = true then some [v] else none
  | .agg ss vs => groundL ss vs
  | .arr n c xs => groundD (.arr n c) xs
  | _ => none
def groundL : List Nat → List AV → Option (List Value)
  | [], [] => some []
  | s :: ss, v :: vs => match ground v, groundL ss vs with
    | some l, some m => if l.length = s then some (l ++ m) else none
    | _, _ => none
  | _, _ => none
end

mutual
theorem ground_ok (ι : Inst) : ∀ (v : AV) (cs : List Value), ground v = some cs → Rep ι v cs
  | .int _ _, _, h => by cases h; rw [Rep]
  | .bool _, _, h => by cases h; rw [Rep]
  | .str _, _, h => by cases h; rw [Rep]
  | .raw v, _, h => by
    simp only [ground] at h
    split at h
    · rename_i e; cases h; rw [Rep]; exact ⟨rfl, e⟩
    · cases h
  | .agg ss vs, _, h => by rw [Rep]; exact groundL_ok ι ss vs _ (by simpa only [ground] using h)
  | .arr n c xs, _, h => by rw [Rep]; exact groundD_ok ι (.arr n c) xs _ (by simpa only [ground] using h)
  | .tup _, _, h => by cases h
  | .ptr _ _, _, h => by cases h
  | .ref _, _, h => by cases h
  | .fsl _ _, _, h => by cases h
  | .osl _ _ _ _ _ _, _, h => by cases h
  | .fn _ _, _, h => by cases h
  | .yld _, _, h => by cases h
  | .mp _, _, h => by cases h
  | .any, _, h => by cases h
theorem groundL_ok (ι : Inst) : ∀ (ss : List Nat) (vs : List AV) (cs : List Value), groundL ss vs = some cs → RepL ι ss vs cs
  | [], [], _, h => by cases h; rw [RepL]; exact ⟨rfl, rfl⟩
  | s :: ss, v :: vs, _, h => by
    simp only [groundL] at h
    split at h
    · rename_i l m h1 h2
      split at h
      · rename_i hl; cases h
        rw [RepL]
        exact ⟨s, ss, l, m, rfl, rfl, hl, ground_ok ι v l h1, groundL_ok ι ss vs m h2⟩
      · cases h
    · cases h
  | [], _ :: _, _, h => by cases h
  | _ :: _, [], _, h => by cases h
end

def wrapV (v : AV) (cs : List Value) : Option Value := if aggB v then some (.agg cs.toArray) else match cs with | [c] => some c | _ => none

theorem wrapV_ok {ι : Inst} {v : AV} {cs : List Value} {z : Value} (h : ground v = some cs) (hz : wrapV v cs = some z) : RepV0 ι v z := by
  unfold wrapV at hz
  unfold RepV0
  split at hz
  · rename_i e; cases hz; rw [if_pos e]; exact ⟨cs, ground_ok ι v cs h, rfl⟩
  · rename_i e; rw [if_neg e]
    split at hz
    · cases hz; exact ground_ok ι v _ h
    · cases hz

def zeroOK (d : ATy) (i : TypeInfo) : Option Value := match ground d.zero with
  | some cs => if aggB d.zero = d.agg ∧ szV d.zero = d.size ∧ i.size = d.size ∧ i.bytes = d.bytes then wrapV d.zero cs else none
  | none => none

theorem ATy.ok_of {P : Program} {t : TypeId} {d : ATy} {i : TypeInfo} {z : Value} (h1 : P.underlying t = some d.desc) (h2 : P.info? t = some i) (h3 : i.zero = some z) (h4 : zeroOK d i = some z) : d.ok P t := by
  unfold zeroOK at h4
  split at h4
  · rename_i cs hg
    split at h4
    · rename_i hc
      exact ⟨h1, i, z, h2, hc.2.2.1, hc.2.2.2, h3, fun ι => wrapV_ok hg h4, hc.1, hc.2.1⟩
    · cases h4
  · cases h4
end Go.Eng
end
section
/- What a row's reading of the arguments says in the engine's own data; what was read stays. -/
namespace Go.Eng
open Go.RowKit Go.ChangeShapes Go.WideShapes Go.Deep

/-- Each number is of its kind, each length small. -/
def TC.wf : (c : TC) → c.den → Prop
  | .int k, n => (Lit.int k n).wf = true
  | .bool, _ => True
  | .str, s => s.size ≤ maxLen
  | .unit, _ => True
  | .st a r, x => a.wf x.1 ∧ r.wf x.2
  | .st1 a, x => a.wf x
  | .slice c, xs => xs.length ≤ maxLen ∧ ∀ x ∈ xs, c.wf x
  | .arr n c, xs => xs.length = n ∧ ∀ x ∈ xs, c.wf x
  | .ref c, x => c.wf x

/-- The code is the type's; and of a struct's fields from one on. -/
def TC.okB (P : Program) : TC → (TypeId → Bool) × (List Field → Nat → Bool)
  | .int k => (fun t => match P.underlying t with | some (.int k') => decide (k = k') | _ => false, fun _ _ => false)
  | .bool => (fun t => match P.underlying t with | some .bool => true | _ => false, fun _ _ => false)
  | .str => (fun t => match P.underlying t with | some .string => true | _ => false, fun _ _ => false)
  | .unit => (fun _ => false, fun _ _ => false)
  | .st a r =>
    let g : List Field → Nat → Bool := fun fs off => match fs with
      | f :: fs => f.offset == off && (a.okB P).1 f.type && P.cellsOf f.type == a.size && (r.okB P).2 fs (off + a.size)
      | [] => false
    (fun t => match P.underlying t with | some (.struct fs) => g fs.toList 0 && P.cellsOf t == (TC.st a r).size | _ => false, g)
  | .st1 a =>
    let g : List Field → Nat → Bool := fun fs off => match fs with
      | [f] => f.offset == off && (a.okB P).1 f.type && P.cellsOf f.type == a.size
      | _ => false
    (fun t => match P.underlying t with | some (.struct fs) => g fs.toList 0 && P.cellsOf t == a.size | _ => false, g)
  | .slice c => (fun t => match P.underlying t with | some (.slice e) => (c.okB P).1 e && P.cellsOf e == c.size && c.size != 0 | _ => false, fun _ _ => false)
  | .arr n c => (fun t => match P.underlying t with | some (.array m e) => m == n && (c.okB P).1 e && P.cellsOf e == c.size && P.cellsOf t == n * c.size | _ => false, fun _ _ => false)
  | .ref _ => (fun _ => false, fun _ _ => false)

section
variable {H : Type} {enc : TypeId × Value → H} {P : Program} {w : World} {base : Nat} {held : Bool}

theorem cells_at {b off n : Nat} {cs' : List Value} {cells : Array Value} {t : TypeId} {fz : Nat × Nat} (hb : w.heap[b]? = some (.cells cells t fz)) (h : w.cells? base ⟨b, off, none⟩ n = some cs') : cs'.length = n ∧ At cells off cs' := by
  obtain ⟨_, hl, hat⟩ := World.cells?_some h
  refine ⟨hl, fun j v hj => ?_⟩
  have hjn : j < n := by rw [← hl]; exact (List.getElem?_eq_some_iff.1 hj).1
  have := hat j hjn
  rw [addr_add, cell_of hb] at this
  rw [this, hj]

theorem cell_inv {a : Addr} {v : Value} (h : w.cell? a = some v) : ∃ cells t fz, w.heap[a.block]? = some (.cells cells t fz) ∧ a = ⟨a.block, a.off, none⟩ := by
  unfold World.cell? at h
  split at h
  · rename_i c t fz hh
    split at h
    · cases h
    · rename_i hs
      refine ⟨c, t, fz, hh, ?_⟩
      cases a with
      | mk b o s => cases s with
        | none => rfl
        | some => exact absurd rfl hs
  · cases h

theorem rows_at {ι : Inst} {c : TC} {off len : Nat} {cells : Array Value} (h : ∀ i, i < len → ∃ (x : c.den) (l : List Value), RepD ι c x l ∧ c.wf x ∧ At cells (off + i * c.size) l) :
    ∃ (xs : List c.den) (l : List Value), xs.length = len ∧ RepAll (RepD ι c) xs l ∧ At cells off l ∧ ∀ x ∈ xs, c.wf x := by
  induction len with
  | zero => exact ⟨[], [], rfl, .nil, fun j v hj => by simp at hj, fun _ h => by cases h⟩
  | succ n ih =>
    obtain ⟨xs, l, hl, hr, hat, hw⟩ := ih fun i hi => h i (by omega)
    obtain ⟨x, m, hx, wx, hm⟩ := h n (by omega)
    refine ⟨xs ++ [x], l ++ m, by simp [hl], hr.app (by simpa using RepAll.cons hx .nil), ?_, ?_⟩
    · intro j v hj
      by_cases hjl : j < l.length
      · rw [List.getElem?_append_left hjl] at hj; exact hat j v hj
      · rw [List.getElem?_append_right (by omega)] at hj
        have := hm (j - l.length) v hj
        have e : l.length = n * c.size := by rw [hr.len (RepD_len c), hl]
        rwa [show off + n * c.size + (j - l.length) = off + j by omega] at this
    · intro y hy
      rcases List.mem_append.1 hy with h | h
      · exact hw y h
      · simp only [List.mem_singleton] at h; subst h; exact wx

theorem rows_in {ι : Inst} {c : TC} {cs : List Value} : ∀ (n : Nat), n * c.size ≤ cs.length → (∀ i, i < n → ∃ x : c.den, RepD ι c x ((cs.drop (i * c.size)).take c.size) ∧ c.wf x) →
    ∃ xs : List c.den, xs.length = n ∧ RepAll (RepD ι c) xs (cs.take (n * c.size)) ∧ ∀ x ∈ xs, c.wf x
  | 0, _, _ => ⟨[], rfl, by simpa using .nil, fun _ h => by cases h⟩
  | n + 1, hl, h => by
    obtain ⟨xs, hn, hr, hw⟩ := rows_in n (by rw [Nat.add_mul] at hl; omega) fun i hi => h i (by omega)
    obtain ⟨x, hx, wx⟩ := h n (by omega)
    refine ⟨xs ++ [x], by simp [hn], ?_, ?_⟩
    · rw [Nat.add_mul, Nat.one_mul, List.take_add]
      exact hr.app (by simpa using RepAll.cons hx .nil)
    · intro y hy
      rcases List.mem_append.1 hy with h | h
      · exact hw y h
      · simp only [List.mem_singleton] at h; subst h; exact wx

theorem read_ok {ι : Inst} (hprot : ∀ b, base ≤ b → ι.prot b = w.heap[b]?) : ∀ (c : TC),
    (∀ (t : TypeId) (fuel : Nat) (cs : List Value) (z : DataW H × List MemPlace), (c.okB P).1 t = true → DataW.trod enc P w base (fun _ => true) held fuel t cs = some z → ∃ x, RepD ι c x cs ∧ c.wf x) ∧
    (∀ (fs : List Field) (off n : Nat) (cs : List Value), (c.okB P).2 fs off = true → (∀ (i : Nat) (f : Field), fs[i]? = some f → ∃ z, DataW.trod enc P w base (fun _ => true) held n f.type ((cs.drop f.offset).take (P.cellsOf f.type)) = some z) →
      cs.length = off + c.size → ∃ x, RepD ι c x (cs.drop off) ∧ c.wf x) := by
  intro c
  induction c with
  | int k =>
    refine ⟨fun t fuel cs z h ht => ?_, fun _ _ _ _ h => by cases h⟩
    simp only [TC.okB] at h
    split at h
    · rename_i k' hu
      simp only [decide_eq_true_eq] at h; subst h
      obtain ⟨n, rfl, _, hw⟩ := DataW.trod_int hu ht
      exact ⟨n, rfl, hw⟩
    · cases h
  | bool =>
    refine ⟨fun t fuel cs z h ht => ?_, fun _ _ _ _ h => by cases h⟩
    simp only [TC.okB] at h
    split at h
    · rename_i hu
      obtain ⟨b, rfl, _⟩ := DataW.trod_bool hu ht
      exact ⟨b, rfl, trivial⟩
    · cases h
  | str =>
    refine ⟨fun t fuel cs z h ht => ?_, fun _ _ _ _ h => by cases h⟩
    simp only [TC.okB] at h
    split at h
    · rename_i hu
      obtain ⟨s, rfl, _, hs⟩ := DataW.trod_string hu ht
      exact ⟨s, rfl, hs⟩
    · cases h
  | unit => exact ⟨(fun _ _ _ _ h => by cases h), (fun _ _ _ _ h => by cases h)⟩
  | st a r iha ihr =>
    have h2 : ∀ (fs : List Field) (off n : Nat) (cs : List Value), ((TC.st a r).okB P).2 fs off = true → (∀ (i : Nat) (f : Field), fs[i]? = some f → ∃ z, DataW.trod enc P w base (fun _ => true) held n f.type ((cs.drop f.offset).take (P.cellsOf f.type)) = some z) →
        cs.length = off + (TC.st a r).size → ∃ x, RepD ι (.st a r) x (cs.drop off) ∧ (TC.st a r).wf x := by
      intro fs off n cs h hf hl
      simp only [TC.okB] at h
      split at h
      · rename_i f fs'
        simp only [Bool.and_eq_true, beq_iff_eq] at h
        obtain ⟨⟨⟨rfl, h1⟩, h3⟩, h4⟩ := h
        obtain ⟨z, hz⟩ := hf 0 f rfl
        obtain ⟨x, hx, wx⟩ := iha.1 _ _ _ _ h1 hz
        obtain ⟨y, hy, wy⟩ := ihr.2 fs' (f.offset + a.size) n cs h4 (fun i g e => hf (i + 1) g (by simpa using e)) (by rw [hl]; simp [TC.size]; omega)
        refine ⟨(x, y), ⟨(cs.drop f.offset).take a.size, cs.drop (f.offset + a.size), ?_, ?_, hy⟩, wx, wy⟩
        · rw [← List.drop_drop, List.take_append_drop]
        · rw [h3] at hx; exact hx
      · cases h
    refine ⟨fun t fuel cs z h ht => ?_, h2⟩
    simp only [TC.okB] at h
    split at h
    · rename_i fs hu
      simp only [Bool.and_eq_true, beq_iff_eq] at h
      obtain ⟨xs, n, _, _, hlen, hxl, hf⟩ := DataW.trod_struct hu ht
      have := h2 fs.toList 0 n cs (by simpa only [TC.okB] using h.1) (fun i f e => by
        have e' : fs[i]? = some f := by simpa using e
        have hi : i < xs.length := by rw [hxl]; exact (Array.getElem?_eq_some_iff.1 e').1
        exact ⟨xs[i], by rw [hf i f e', List.getElem?_eq_getElem hi]⟩) (by rw [hlen, h.2]; simp)
      simpa using this
    · cases h
  | st1 a iha =>
    have h2 : ∀ (fs : List Field) (off n : Nat) (cs : List Value), ((TC.st1 a).okB P).2 fs off = true → (∀ (i : Nat) (f : Field), fs[i]? = some f → ∃ z, DataW.trod enc P w base (fun _ => true) held n f.type ((cs.drop f.offset).take (P.cellsOf f.type)) = some z) →
        cs.length = off + (TC.st1 a).size → ∃ x, RepD ι (.st1 a) x (cs.drop off) ∧ (TC.st1 a).wf x := by
      intro fs off n cs h hf hl
      simp only [TC.okB] at h
      split at h
      · rename_i f
        simp only [Bool.and_eq_true, beq_iff_eq] at h
        obtain ⟨⟨rfl, h1⟩, h3⟩ := h
        obtain ⟨z, hz⟩ := hf 0 f rfl
        obtain ⟨x, hx, wx⟩ := iha.1 _ _ _ _ h1 hz
        refine ⟨x, ?_, wx⟩
        rw [h3, List.take_of_length_le (by simp [hl, TC.size])] at hx
        exact hx
      · cases h
    refine ⟨fun t fuel cs z h ht => ?_, h2⟩
    simp only [TC.okB] at h
    split at h
    · rename_i fs hu
      simp only [Bool.and_eq_true, beq_iff_eq] at h
      obtain ⟨xs, n, _, _, hlen, hxl, hf⟩ := DataW.trod_struct hu ht
      have := h2 fs.toList 0 n cs (by simpa only [TC.okB] using h.1) (fun i f e => by
        have e' : fs[i]? = some f := by simpa using e
        have hi : i < xs.length := by rw [hxl]; exact (Array.getElem?_eq_some_iff.1 e').1
        exact ⟨xs[i], by rw [hf i f e', List.getElem?_eq_getElem hi]⟩) (by rw [hlen, h.2]; simp [TC.size])
      simpa using this
    · cases h
  | slice c ih =>
    refine ⟨fun t fuel cs z h ht => ?_, fun _ _ _ _ h => by cases h⟩
    simp only [TC.okB] at h
    split at h
    · rename_i e hu
      simp only [Bool.and_eq_true, beq_iff_eq, bne_iff_ne, ne_eq] at h
      obtain ⟨⟨h1, h3⟩, h0⟩ := h
      rcases open_slice hu ht with ⟨rfl, _⟩ | ⟨a, len, cap, m, n, D, Pl, rfl, hb, hl, hm, hmm, _, hi⟩
      · exact ⟨[], ⟨_, rfl, .inl ⟨rfl, .inl rfl⟩⟩, Nat.zero_le _, fun _ h => by cases h⟩
      · rw [h3] at hi
        simp only [if_true] at hmm
        have hmm := hmm.symm
        subst hmm
        by_cases hc : cap = 0
        · subst hc
          have : len = 0 := by omega
          subst this
          exact ⟨[], ⟨_, rfl, .inl ⟨rfl, .inr ⟨a, rfl⟩⟩⟩, Nat.zero_le _, fun _ h => by cases h⟩
        · obtain ⟨cs0, hc0, _⟩ := hi 0 (by omega)
          obtain ⟨_, hl0, hat0⟩ := World.cells?_some hc0
          have hz : 0 < cs0.length := by omega
          have hcell := hat0 0 (by omega)
          rw [Nat.zero_mul, Addr.add_zero', Addr.add_zero', List.getElem?_eq_getElem hz] at hcell
          obtain ⟨cells, ty, fz, hh, ha⟩ := cell_inv hcell
          generalize a.block = b at *
          generalize a.off = off at *
          subst ha
          obtain ⟨xs, l, hxl, hr, hat, hw⟩ := rows_at (ι := ι) (c := c) (off := off) (len := len) (cells := cells) (by
            intro i hil
            obtain ⟨cs', hc', ht'⟩ := hi i (by omega)
            rw [addr_add] at hc'
            obtain ⟨hl', hat'⟩ := cells_at hh hc'
            obtain ⟨x, hx, wx⟩ := ih.1 _ _ _ _ h1 ht'
            exact ⟨x, cs', hx, wx, hat'⟩)
          refine ⟨xs, ⟨_, rfl, .inr ⟨b, off, cap, cells, ty, fz, l, by rw [hxl], by rw [hxl]; exact hl, ?_, hr, hat⟩⟩, by rw [hxl]; omega, hw⟩
          rw [hprot b hb, hh]
    · cases h
  | arr n c ih =>
    refine ⟨fun t fuel cs z h ht => ?_, fun _ _ _ _ h => by cases h⟩
    simp only [TC.okB] at h
    split at h
    · rename_i m e hu
      simp only [Bool.and_eq_true, beq_iff_eq] at h
      obtain ⟨⟨⟨rfl, h1⟩, h3⟩, h4⟩ := h
      obtain ⟨ys, k, _, _, hlen, hyl, hi⟩ := DataW.trod_array hu ht
      rw [h3] at hi
      rw [h4] at hlen
      obtain ⟨xs, hxl, hr, hw⟩ := rows_in (ι := ι) (c := c) (cs := cs) m (by omega) (by
        intro i him
        have := hi i him
        rw [List.getElem?_eq_getElem (by omega)] at this
        exact ih.1 _ _ _ _ h1 this)
      rw [List.take_of_length_le (by omega)] at hr
      exact ⟨xs, ⟨hxl, hr⟩, hxl, hw⟩
    · cases h
  | ref c _ => exact ⟨(fun _ _ _ _ h => by cases h), (fun _ _ _ _ h => by cases h)⟩

/-- All arguments at once. -/
def TC.okAll (P : Program) : TC → List TypeId → Bool
  | .unit, [] => true
  | .st1 a, [t] => (a.okB P).1 t
  | .st a r, t :: ts => (a.okB P).1 t && !ts.isEmpty && r.okAll P ts
  | _, _ => false

theorem RepV_ofD {ι : Inst} {c : TC} {x : c.den} {v : Value} (h : RepD ι c x v.cells.toList) (hv : aggB (ofD c x) = true → ∃ cs, v = .agg cs) (hn : aggB (ofD c x) = false → v.cells = #[v]) : RepV ι (ofD c x) v := by
  have hr := Rep_ofD.2 h
  cases ha : aggB (ofD c x) with
  | true =>
    obtain ⟨cs, rfl⟩ := hv ha
    have := RepV_of_agg ha hr
    simpa [Value.cells] using this
  | false =>
    rw [hn ha] at hr
    exact RepV_of_rep ha hr

def TC.agg : TC → Bool
  | .st _ _ => true
  | .st1 _ => true
  | .unit => true
  | .arr _ _ => true
  | _ => false

theorem ofD_agg : ∀ (c : TC) (x : c.den), aggB (ofD c x) = c.agg := by intro c x; cases c <;> rfl

theorem okB_shape {c : TC} {t : TypeId} (h : (c.okB P).1 t = true) : (c.agg = true ↔ ((∃ fs, P.underlying t = some (.struct fs)) ∨ ∃ n e, P.underlying t = some (.array n e))) := by
  cases c <;> simp only [TC.okB] at h <;> (first | (cases h; done) | skip) <;> split at h <;> first
    | (cases h; done)
    | (rename_i hu; simp [TC.agg, hu])

theorem arg_ok {ι : Inst} (hprot : ∀ b, base ≤ b → ι.prot b = w.heap[b]?) {c : TC} {t : TypeId} {v : Value} {d : DataW H} {ps : List MemPlace} {r : Reach} {b0 : Nat} {w' : World} (hok : (c.okB P).1 t = true) (hval : Value.okWide P w' r b0 t v)
    (h : DataW.Trod enc P w base (fun _ => true) held t v d ps) : ∃ x : c.den, RepV ι (ofD c x) v ∧ c.wf x := by
  obtain ⟨fuel, h⟩ := h
  obtain ⟨x, hx, wx⟩ := (read_ok hprot c).1 _ _ _ _ hok h
  refine ⟨x, RepV_ofD hx (fun ha => ?_) (fun ha => ?_), wx⟩
  · rw [ofD_agg] at ha
    rcases (okB_shape hok).1 ha with ⟨fs, hu⟩ | ⟨n, e, hu⟩
    · simp only [Value.okWide, hu] at hval
      obtain ⟨cs, rfl, _⟩ := hval; exact ⟨cs, rfl⟩
    · simp only [Value.okWide, hu] at hval
      obtain ⟨cs, rfl, _⟩ := hval; exact ⟨cs, rfl⟩
  · have hr := Rep_ofD.2 hx
    have hl := Rep_len _ _ hr
    have h1 : szV (ofD c x) = 1 := by
      cases c <;> first | rfl | (rw [ofD_agg] at ha; cases ha; done)
    rw [h1] at hl
    have hc1 : v.cells.size = 1 := by simpa using hl
    cases v <;> first
      | rfl
      | (rename_i cs
         have hn : ¬ c.agg = true := by rw [← ofD_agg c x, ha]; simp
         exfalso
         have hnot := fun h => hn ((okB_shape hok).2 h)
         revert hval
         unfold Value.okWide
         split
         · rename_i fs hu; exact absurd (.inl ⟨fs, hu⟩) hnot
         · rename_i n e hu; exact absurd (.inr ⟨n, e, hu⟩) hnot
         · intro hval
           unfold Cell.okWide at hval
           split at hval <;> first | (rename_i hv; cases hv; done) | skip
           unfold Cell.ok at hval
           split at hval <;> first | (rename_i hv; cases hv; done) | exact hval)

theorem args_ok {ι : Inst} (hprot : ∀ b, base ≤ b → ι.prot b = w.heap[b]?) {r : Reach} {b0 : Nat} {w' : World} : ∀ (c : TC) (ts : List TypeId) (vs : List Value) (ds : List (DataW H)) (ps : List MemPlace), c.okAll P ts = true →
    (∀ (j : Nat) t v, ts[j]? = some t → vs[j]? = some v → Value.okWide P w' r b0 t v) → DataW.TrodAll enc P w base (fun _ => true) held ts vs ds ps → ∃ x : c.den, All2 (RepV ι) (argsOf c x) vs ∧ c.wf x
  | .unit, [], vs, _, _, _, _, h => by
    cases vs with
    | nil => exact ⟨(), .nil, trivial⟩
    | cons => simp [DataW.TrodAll] at h
  | .st1 a, [t], vs, ds, _, hok, hval, h => by
    match vs, ds, h with
    | v :: vs, d :: ds, ⟨p, q, h1, h2, _⟩ =>
      cases vs with
      | cons => cases ds <;> simp [DataW.TrodAll] at h2
      | nil =>
        obtain ⟨x, hx, wx⟩ := arg_ok hprot hok (hval 0 t v rfl rfl) h1
        exact ⟨x, .cons hx .nil, wx⟩
  | .st a r', t :: ts, vs, ds, _, hok, hval, h => by
    simp only [TC.okAll, Bool.and_eq_true] at hok
    match vs, ds, h with
    | v :: vs, d :: ds, ⟨p, q, h1, h2, _⟩ =>
      obtain ⟨x, hx, wx⟩ := arg_ok hprot hok.1.1 (hval 0 t v rfl rfl) h1
      obtain ⟨y, hy, wy⟩ := args_ok hprot r' ts vs ds q hok.2 (fun j t v e1 e2 => hval (j + 1) t v (by simpa using e1) (by simpa using e2)) h2
      refine ⟨(x, y), ?_, wx, wy⟩
      have e : argsOf (.st a r') (x, y) = ofD a x :: (r'.both y).2 := rfl
      rw [e]
      refine .cons hx ?_
      cases r' with
      | unit =>
        cases ts with
        | nil => simp at hok
        | cons => simp [TC.okAll] at hok
      | _ => exact hy

/-- What was read stays, where nothing that was has changed. -/
theorem trodAll_stays (hl : laidOutB P = true) {W W' : World} (hb : Below W.heap.size W W') : ∀ (ts : List TypeId) (vs : List Value) (ds : List (DataW H)) (ps : List MemPlace), (ts.all fun t => P.readableRec t && decide (t < P.types.size)) = true →
    DataW.TrodAll enc P W base (fun _ => true) true ts vs ds ps → DataW.TrodAll enc P W' base (fun b => decide (b < W.heap.size)) true ts vs ds ps
  | [], [], [], _, _, h => h
  | t :: ts, v :: vs, d :: ds, _, hr, ⟨p, q, h1, h2, e⟩ => by
    simp only [List.all_cons, Bool.and_eq_true, decide_eq_true_eq] at hr
    refine ⟨p, q, ?_, trodAll_stays hl hb ts vs ds q (by simpa using hr.2) h2, e⟩
    obtain ⟨n, hn⟩ := h1
    refine Go.WideElems.Trod_stays hl hr.1.1 hr.1.2 ⟨n, hn⟩ (fun p hp => hb.same (DataW.trod_lt n t _ _ hn p hp)) (fun p hp => decide_eq_true (DataW.trod_lt n t _ _ hn p hp))
  | [], _ :: _, _, _, _, h => h.elim
  | [], [], _ :: _, _, _, h => h.elim
  | _ :: _, [], _, _, _, h => h.elim
  | _ :: _, _ :: _, [], _, _, h => h.elim
end

theorem trodAll_len {H : Type} {enc : TypeId × Value → H} {P : Program} {W : World} {base : Nat} {sp : Nat → Bool} {held : Bool} : ∀ (ts : List TypeId) (vs : List Value) (ds : List (DataW H)) (ps : List MemPlace), DataW.TrodAll enc P W base sp held ts vs ds ps → ds.length = ts.length
  | [], [], [], _, _ => rfl
  | _ :: ts, _ :: vs, _ :: ds, _, ⟨_, q, _, h2, _⟩ => by simp [trodAll_len ts vs ds q h2]
  | [], _ :: _, _, _, h => h.elim
  | [], [], _ :: _, _, h => h.elim
  | _ :: _, [], _, _, h => h.elim
  | _ :: _, _ :: _, [], _, h => h.elim

theorem uncons {α : Type} {l : List α} {n : Nat} (h : l.length = n + 1) : ∃ a t, l = a :: t ∧ t.length = n := by
  cases l with
  | nil => cases h
  | cons a t => exact ⟨a, t, rfl, by simpa using h⟩

theorem unnil {α : Type} {l : List α} (h : l.length = 0) : l = [] := List.length_eq_zero_iff.1 h

/-! ### From a contract to a law's walk -/
/-- All of memory is protected. -/
def protAll (W : World) : Nat → Option Obj := fun b => W.heap[b]?

theorem law_walk {E : Env} (hV : E.Valid) {f : FuncId} {fn : Func} {c : Code} {sp : Spec} (hf : E.fns f = some fn) (hc : fn.body = some c) (h : SpecOk E f sp) {W : World} (hg : GlobRep E ⟨W, protAll W, []⟩) {x : sp.dom.den} (hp : sp.pre x) {args : List Value}
    (ha : All2 (RepV ⟨W, protAll W, []⟩) (argsOf sp.dom x) args) (hb : resV sp.n sp.cod (sp.f x) = .bool true) :
    Calls E.P f args.toArray W fun e W' => e = .returned (.bool true) ∧ Below W.heap.size W W' := by
  have h1 := h x W (protAll W) args hp (fun _ _ e => e) hg ha
  have h2 := callFunc_enter (E := E) (w := W) hV (f := f) (fn := fn) hf hc args.toArray
  rcases h1 with ⟨v, h3, _⟩ | ⟨_, h4⟩
  · rw [h2] at h3; cases h3
  · refine h4.mono fun e W' ⟨v, he, hB, hr⟩ => ⟨?_, hB⟩
    rw [hb] at hr
    rw [he, hr.bool]
end Go.Eng
end
section
/- Contracts of functions without a body: sums and rests of words. -/
namespace Go.Eng
open Go.RowKit

abbrev cod2 : TC := .st (.int .u64) (.st1 (.int .u64))
abbrev dom3 : TC := .st (.int .u64) (.st (.int .u64) (.st1 (.int .u64)))

def preAdd64 (x : Int × (Int × Int)) : Prop := 0 ≤ x.1 ∧ 0 ≤ x.2.1 ∧ 0 ≤ x.2.2 ∧ x.2.2 ≤ 1
def fnAdd64 (x : Int × (Int × Int)) : Int × Int := ((x.1 + x.2.1 + x.2.2) % 18446744073709551616, (x.1 + x.2.1 + x.2.2) / 18446744073709551616)
def specAdd64 : Spec := { dom := dom3, cod := cod2, n := 2, pre := preAdd64, f := fnAdd64 }

def preSub64 (x : Int × (Int × Int)) : Prop := 0 ≤ x.1 ∧ 0 ≤ x.2.1 ∧ x.2.1 < 18446744073709551616 ∧ 0 ≤ x.2.2 ∧ x.2.2 ≤ 1
def fnSub64 (x : Int × (Int × Int)) : Int × Int := ((x.1 - x.2.1 - x.2.2) % 18446744073709551616, if x.1 < x.2.1 + x.2.2 then 1 else 0)
def specSub64 : Spec := { dom := dom3, cod := cod2, n := 2, pre := preSub64, f := fnSub64 }

theorem args3 {ι : Inst} {x : Int × (Int × Int)} {args : List Value} (h : All2 (RepV ι) (argsOf dom3 x) args) : args = [.int .u64 x.1, .int .u64 x.2.1, .int .u64 x.2.2] := by
  have h : All2 (RepV ι) [.int .u64 x.1, .int .u64 x.2.1, .int .u64 x.2.2] args := h
  obtain ⟨a, _, rfl, h1, h⟩ := h.cons_inv
  obtain ⟨b, _, rfl, h2, h⟩ := h.cons_inv
  obtain ⟨c, _, rfl, h3, h⟩ := h.cons_inv
  cases h
  rw [h1.int, h2.int, h3.int]

theorem res2 {ι : Inst} {y : Int × Int} : RepV ι (resV 2 cod2 y) (.tuple #[.int .u64 y.1, .int .u64 y.2]) := by
  have e : resV 2 cod2 y = .tup [.int .u64 y.1, .int .u64 y.2] := rfl
  rw [e]
  exact ⟨[.int .u64 y.1, .int .u64 y.2], rfl, .cons (RepV_int _ _) (.cons (RepV_int _ _) .nil)⟩

theorem okAdd64 {E : Env} {f : FuncId} {fn : Func} (hf : E.P.funcs[f]? = some fn) (hname : (fn.name == "runtime.NumGoroutine") = false) (hb : fn.body.isNone = true) (hn : Extern.findNext fn = none) (he : Extern.find fn = some add64Entry) : SpecOk E f specAdd64 := by
  intro x w pr args hp hpr hg ha
  have ha := args3 ha
  subst ha
  obtain ⟨h1, h2, h3, h4⟩ := hp
  refine .inl ⟨.tuple #[.int .u64 (fnAdd64 x).1, .int .u64 (fnAdd64 x).2], ?_, Below.refl _ _, res2⟩
  rw [run_callFunc_extern hf hname hb hn he]
  have := run_add64 (P := E.P) x.1 x.2.1 x.2.2 h1 h2 h3 h4 w
  rw [show (([Value.int .u64 x.1, .int .u64 x.2.1, .int .u64 x.2.2] : List Value).toArray) = #[.int .u64 x.1, .int .u64 x.2.1, .int .u64 x.2.2] from rfl, this]
  rfl

def sub64Entry : Array Value → Sem Value := fun args => do
  let (x, y, b) ← Extern.MathBitsCarry.three "Sub64" args
  pure (Extern.MathBitsCarry.pair ((x + Extern.MathBitsCarry.m64 - y - b) % Extern.MathBitsCarry.m64) (if x < y + b then 1 else 0))

theorem run_sub64 {P : Program} (x y c : Int) (hx : 0 ≤ x) (hy : 0 ≤ y) (hy1 : y < 18446744073709551616) (hc0 : 0 ≤ c) (hc : c ≤ 1) (w : World) :
    (sub64Entry #[.int .u64 x, .int .u64 y, .int .u64 c]).run P w =
      .ok (.tuple #[.int .u64 ((x - y - c) % 18446744073709551616), .int .u64 (if x < y + c then 1 else 0)]) w := by
  have key : ∀ k : Nat, k ≤ 1 → (sub64Entry #[.int .u64 x, .int .u64 y, .int .u64 (k : Int)]).run P w =
      .ok (Extern.MathBitsCarry.pair ((x.toNat + Extern.MathBitsCarry.m64 - y.toNat - k) % Extern.MathBitsCarry.m64) (if x.toNat < y.toNat + k then 1 else 0)) w := by
    intro k hk
    have : k = 0 ∨ k = 1 := by omega
    rcases this with rfl | rfl <;> rfl
  obtain ⟨k, rfl⟩ := Int.eq_ofNat_of_zero_le hc0
  rw [key k (by omega)]
  obtain ⟨X, rfl⟩ := Int.eq_ofNat_of_zero_le hx
  obtain ⟨Y, rfl⟩ := Int.eq_ofNat_of_zero_le hy
  simp only [Extern.MathBitsCarry.pair, Extern.MathBitsCarry.m64, Int.toNat_natCast]
  have e1 : Int.ofNat ((X + 2 ^ 64 - Y - k) % 2 ^ 64) = ((X : Int) - Y - k) % 18446744073709551616 := by
    have : (2 : Nat) ^ 64 = 18446744073709551616 := rfl
    rw [this]
    change (((X + 18446744073709551616 - Y - k) % 18446744073709551616 : Nat) : Int) = _
    omega
  have e2 : Int.ofNat (if X < Y + k then 1 else 0) = (if (X : Int) < (Y : Int) + (k : Int) then 1 else 0) := by
    by_cases h : X < Y + k
    · rw [if_pos h, if_pos (by omega)]; rfl
    · rw [if_neg h, if_neg (by omega)]; rfl
  rw [e1, e2]

theorem okSub64 {E : Env} {f : FuncId} {fn : Func} (hf : E.P.funcs[f]? = some fn) (hname : (fn.name == "runtime.NumGoroutine") = false) (hb : fn.body.isNone = true) (hn : Extern.findNext fn = none) (he : Extern.find fn = some sub64Entry) : SpecOk E f specSub64 := by
  intro x w pr args hp hpr hg ha
  have ha := args3 ha
  subst ha
  obtain ⟨h1, h2, h3, h4, h5⟩ := hp
  refine .inl ⟨.tuple #[.int .u64 (fnSub64 x).1, .int .u64 (fnSub64 x).2], ?_, Below.refl _ _, res2⟩
  rw [run_callFunc_extern hf hname hb hn he]
  have := run_sub64 (P := E.P) x.1 x.2.1 x.2.2 h1 h2 h3 h4 h5 w
  rw [show (([Value.int .u64 x.1, .int .u64 x.2.1, .int .u64 x.2.2] : List Value).toArray) = #[.int .u64 x.1, .int .u64 x.2.1, .int .u64 x.2.2] from rfl, this]
  rfl
end Go.Eng
end
section
/- Plain laws on whole numbers of a kind. -/
namespace Go.Eng

theorem wrap_u64 (n : Int) : IntKind.wrap .u64 n = n % 18446744073709551616 := by
  simp [IntKind.wrap, IntKind.signed, IntKind.bits]
theorem wrap_u8 (n : Int) : IntKind.wrap .u8 n = n % 256 := by
  simp [IntKind.wrap, IntKind.signed, IntKind.bits]
theorem wrap_i64 (n : Int) : IntKind.wrap .i64 n = (n + 9223372036854775808) % 18446744073709551616 - 9223372036854775808 := by
  simp only [IntKind.wrap, IntKind.signed, IntKind.bits]
  simp
  omega

theorem ofInt_nat {b a : Nat} (h : a < 2 ^ b) : (BitVec.ofInt b (a : Int)).toNat = a := by
  rw [BitVec.ofInt_natCast, BitVec.toNat_ofNat, Nat.mod_eq_of_lt h]

theorem iand_u64 {a b : Nat} (ha : a < 18446744073709551616) (hb : b < 18446744073709551616) : iand .u64 a b = ((a &&& b : Nat) : Int) := by
  have h1 := ofInt_nat (b := 64) (a := a) (by omega)
  have h2 := ofInt_nat (b := 64) (a := b) (by omega)
  have h3 : a &&& b < 18446744073709551616 := Nat.lt_of_le_of_lt Nat.and_le_left ha
  have e : iand .u64 a b = IntKind.wrap .u64 ((BitVec.ofInt 64 (a : Int) &&& BitVec.ofInt 64 (b : Int)).toNat : Nat) := rfl
  rw [e, BitVec.toNat_and, h1, h2, wrap_u64]
  omega

theorem ior_u64 {a b : Nat} (ha : a < 18446744073709551616) (hb : b < 18446744073709551616) : ior .u64 a b = ((a ||| b : Nat) : Int) := by
  have h1 := ofInt_nat (b := 64) (a := a) (by omega)
  have h2 := ofInt_nat (b := 64) (a := b) (by omega)
  have h3 : a ||| b < 2 ^ 64 := Nat.or_lt_two_pow (by omega) (by omega)
  have e : ior .u64 a b = IntKind.wrap .u64 ((BitVec.ofInt 64 (a : Int) ||| BitVec.ofInt 64 (b : Int)).toNat : Nat) := rfl
  rw [e, BitVec.toNat_or, h1, h2, wrap_u64]
  omega

theorem ixor_u64 {a b : Nat} (ha : a < 18446744073709551616) (hb : b < 18446744073709551616) : ixor .u64 a b = ((a ^^^ b : Nat) : Int) := by
  have h1 := ofInt_nat (b := 64) (a := a) (by omega)
  have h2 := ofInt_nat (b := 64) (a := b) (by omega)
  have h3 : a ^^^ b < 2 ^ 64 := Nat.xor_lt_two_pow (by omega) (by omega)
  have e : ixor .u64 a b = IntKind.wrap .u64 ((BitVec.ofInt 64 (a : Int) ^^^ BitVec.ofInt 64 (b : Int)).toNat : Nat) := rfl
  rw [e, BitVec.toNat_xor, h1, h2, wrap_u64]
  omega

theorem ishl_u64 {a k : Nat} (hk : k < 64) : ishl .u64 a k = ((a * 2 ^ k % 18446744073709551616 : Nat) : Int) := by
  have e : min k 64 = k := by omega
  simp only [ishl, IntKind.bits, Int.toNat_natCast, e, wrap_u64]
  rw [Int.natCast_emod, Int.natCast_mul, Int.natCast_pow]
  rfl

theorem ishr_u64 {a k : Nat} (hk : k < 64) : ishr .u64 a k = ((a / 2 ^ k : Nat) : Int) := by
  have e : min k 64 = k := by omega
  simp only [ishr, IntKind.bits, Int.toNat_natCast, e]
  rw [Int.fdiv_eq_ediv_of_nonneg _ (Int.le_of_lt (Int.pow_pos (by decide)))]
  push_cast
  rfl
end Go.Eng
end
