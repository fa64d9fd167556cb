/- A part of the proof that the laws of this seat hold. Conditions: none beyond the row. -/
import Derived.Test.YtohejjhnnghieaaDoorFns1
import Derived.KernelRfl
set_option linter.unusedVariables false
set_option linter.unusedSimpArgs false
set_option linter.unusedSectionVars false
section
/- facts.Of: what its rows hold. -/
namespace Go.Eng.RU
open Go.Eng
set_option maxRecDepth 100000
set_option linter.unusedSectionVars false
set_option linter.unusedSimpArgs false
set_option linter.unusedVariables false
noncomputable def fin7 (x : DInsn) (R W A : List Int) (i o l s : Int) : DFacts := (rise R, (rise W, (rise A, (i, (o, (l, (s, fn17 ([26, 27, 28, 29], x.1))))))))
def Fin (x : DInsn) (t : Tr (J7 ⊕ DFacts)) (P : List Int → List Int → List Int → Int → Int → Int → Int → Prop) : Prop := ∃ R W A i o l s, Ends (step7 x) (fin7 x R W A i o l s) t ∧ (R.length ≤ 1000 ∧ W.length ≤ 1000 ∧ A.length ≤ 1000) ∧ P R W A i o l s
variable {x : DInsn} {t e : Tr (J7 ⊕ DFacts)} {P Q : List Int → List Int → List Int → Int → Int → Int → Int → Prop}
theorem fin_imp (h : Fin x t P) (k : ∀ R W A i o l s, P R W A i o l s → Q R W A i o l s) : Fin x t Q := by
  obtain ⟨R, W, A, i, o, l, s, h1, hl, h2⟩ := h
  exact ⟨R, W, A, i, o, l, s, h1, hl, k _ _ _ _ _ _ _ h2⟩
theorem fin_need {p : Prop} (h : p) (k : Fin x t P) : Fin x (.need p t) P := by
  obtain ⟨R, W, A, i, o, l, s, h1, h2⟩ := k
  exact ⟨R, W, A, i, o, l, s, .need _ _ h h1, h2⟩
theorem fin_ite {b : Bool} (h1 : b = true → Fin x t P) (h2 : b = false → Fin x e P) : Fin x (.ite b t e) P := by
  cases b
  · obtain ⟨R, W, A, i, o, l, s, h1, h2⟩ := h2 rfl
    exact ⟨R, W, A, i, o, l, s, .no _ _ h1, h2⟩
  · obtain ⟨R, W, A, i, o, l, s, h1, h2⟩ := h1 rfl
    exact ⟨R, W, A, i, o, l, s, .yes _ _ h1, h2⟩
theorem fin_jump {j : J7} (h : Fin x (step7 x j) P) : Fin x (.ret (.inl j)) P := by
  obtain ⟨R, W, A, i, o, l, s, h1, h2⟩ := h
  exact ⟨R, W, A, i, o, l, s, .jump _ h1, h2⟩
theorem l0 : ([] : List Int).length ≤ 1000 := by simp
theorem fin_23 {i o : Int} (h : P [] [] [] i o 0 0) : Fin x (.ret (.inl (.h23 i o))) P := by
  refine fin_jump ⟨_, _, _, _, _, _, _, ?_, ⟨l0, l0, l0⟩, h⟩
  simp only [step7, step7h23, ends_need, ends_ret, (rise_ok l0).1, (rise_ok l0).2, pre17_ok, true_and, fin7]
theorem fin_24 {a b : Nat} {i o : Int} {R W : List Int} (ha : a = R.length) (hb : b = W.length) (h1 : a ≤ 1000) (h2 : b ≤ 1000) (h : P R W [] i o 0 0) : Fin x (.ret (.inl (.h24 a b i o R W))) P := by
  subst ha hb
  refine fin_jump ⟨_, _, _, _, _, _, _, ?_, ⟨h1, h2, l0⟩, h⟩
  simp only [step7, step7h24, ends_need, ends_ret, (rise_ok l0).1, (rise_ok l0).2, (rise_ok h1).1, (rise_ok h1).2, (rise_ok h2).1, (rise_ok h2).2, pre17_ok, true_and, fin7]
theorem fin_25 {a b : Nat} {i o l s : Int} {R A : List Int} (ha : a = R.length) (hb : b = A.length) (h1 : a ≤ 1000) (h2 : b ≤ 1000) (h : P R [] A i o l s) : Fin x (.ret (.inl (.h25 a b i o l s R A))) P := by
  subst ha hb
  refine fin_jump ⟨_, _, _, _, _, _, _, ?_, ⟨h1, l0, h2⟩, h⟩
  simp only [step7, step7h25, ends_need, ends_ret, (rise_ok l0).1, (rise_ok l0).2, (rise_ok h1).1, (rise_ok h1).2, (rise_ok h2).1, (rise_ok h2).2, pre17_ok, true_and, fin7]
theorem fin_26 {a : Nat} {i o : Int} {R : List Int} (ha : a = R.length) (h1 : a ≤ 1000) (h : P R [] [] i o 0 0) : Fin x (.ret (.inl (.h26 a i o R))) P := by
  subst ha
  refine fin_jump ⟨_, _, _, _, _, _, _, ?_, ⟨h1, l0, l0⟩, h⟩
  simp only [step7, step7h26, ends_need, ends_ret, (rise_ok l0).1, (rise_ok l0).2, (rise_ok h1).1, (rise_ok h1).2, pre17_ok, true_and, fin7]
theorem fin_27 {a b c : Nat} {n i o l s : Int} {R W A : List Int} (ha : a = R.length) (hb : b = W.length) (hc : c = A.length) (h1 : a ≤ 1000) (h2 : b ≤ 1000) (h3 : c ≤ 1000) (h : P R W A i o l s) : Fin x (.ret (.inl (.h27 n a b c i o l s R W A))) P := by
  subst ha hb hc
  refine fin_jump ⟨_, _, _, _, _, _, _, ?_, ⟨h1, h2, h3⟩, h⟩
  simp only [step7, step7h27, ends_need, ends_ret, (rise_ok h3).1, (rise_ok h3).2, (rise_ok h1).1, (rise_ok h1).2, (rise_ok h2).1, (rise_ok h2).2, pre17_ok, true_and, fin7]
theorem fin_28 {i o : Int} {W : List Int} (ha : 1 = W.length) (h : P [] W [] i o 0 0) : Fin x (.ret (.inl (.h28 i o W))) P := by
  have h1 : W.length ≤ 1000 := by omega
  refine fin_jump ⟨_, _, _, _, _, _, _, ?_, ⟨l0, h1, l0⟩, h⟩
  simp only [step7, step7h28, ends_need, ends_ret, (rise_ok l0).1, (rise_ok l0).2, (rise_ok h1).1, (rise_ok h1).2, pre17_ok, true_and, fin7]
  exact ⟨ha, trivial⟩
theorem fin_29 {R W : List Int} (ha : 1 = W.length) (h2 : R.length ≤ 1000) (h : P R W [] 0 0 0 0) : Fin x (.ret (.inl (.h29 R W))) P := by
  have h1 : W.length ≤ 1000 := by omega
  refine fin_jump ⟨_, _, _, _, _, _, _, ?_, ⟨h2, h1, l0⟩, h⟩
  simp only [step7, step7h29, ends_need, ends_ret, (rise_ok l0).1, (rise_ok l0).2, (rise_ok h1).1, (rise_ok h1).2, (rise_ok h2).1, (rise_ok h2).2, pre17_ok, true_and, fin7]
  exact ⟨ha, trivial⟩
theorem fin_30 {R : List Int} (h2 : R.length ≤ 1000) (h : P R [] [] 0 0 0 0) : Fin x (.ret (.inl (.h30 R))) P := by
  refine fin_jump ⟨_, _, _, _, _, _, _, ?_, ⟨h2, l0, l0⟩, h⟩
  simp only [step7, step7h30, ends_need, ends_ret, (rise_ok l0).1, (rise_ok l0).2, (rise_ok h2).1, (rise_ok h2).2, pre17_ok, true_and, fin7]
theorem pre9_ok (x) : pre9 x := by unfold pre9 tree9; simp only [ok_ite, ok_need, ok_ret]; simp
theorem pre40_ok (x) : pre40 x := by unfold pre40 tree40; trivial
theorem pre64_ok (x) : pre64 x := by unfold pre64 tree64; trivial
theorem pre15_ok : pre15 () := by unfold pre15 tree15; simp [Tr.ok]
theorem nought_iff : fn9 x = true ↔ (x.1 = 9 ∨ x.1 = 8 ∨ x.1 = 36) ∧ x.2.2.2.1.1 = 1 ∧ x.2.2.2.2.1.1 = 1 ∧ x.2.2.2.1.2.1 = x.2.2.2.2.1.2.1 := by
  unfold fn9 tree9
  simp only [val_ite, val_ret]
  cases h1 : ieq x.1 9 <;> cases h2 : ieq x.1 8 <;> cases h3 : ieq x.1 36 <;> cases h4 : ieq x.2.2.2.1.1 1 <;> cases h5 : ieq x.2.2.2.2.1.1 1 <;> simp_all [ieq_iff, ieq_no]
theorem ulen (o : DOperand) : (uses o).length ≤ 2 := uses_len o
/-- A's register alone is written, if any. -/
def G0 (x : DInsn) : List Int → List Int → List Int → Int → Int → Int → Int → Prop := fun R W A i o l s => ∀ n ∈ W, x.2.2.2.1.1 = 1 ∧ n = x.2.2.2.1.2.1
theorem g_nil {p : Int → Prop} : ∀ n ∈ ([] : List Int), p n := fun n h => by cases h
theorem g_one {a : Int} {p : Int → Prop} (h : p a) : ∀ n ∈ [a], p n := fun n hn => by rw [List.mem_singleton.1 hn]; exact h
theorem beq_false (b : Bool) : (b == false) = !b := by cases b <;> rfl
theorem fin_ff (h : false = true) : Fin x t P := by cases h
theorem fin_tf (h : true = false) : Fin x t P := by cases h
theorem fin_two {b : Bool} (h1 : b = true) (h2 : b = false) : Fin x t P := by rw [h1] at h2; cases h2
theorem c0 : Fin x (step7h0 x) (G0 x) := by
  have u1 := ulen x.2.2.2.1
  have u2 := ulen x.2.2.2.2.1
  simp only [step7h0, fn28_ok, beq_true, beq_false]
  repeat' (first
    | exact fin_ff (by assumption) | exact fin_tf (by assumption)
    | refine fin_need (by first | exact True.intro | exact pre28_ok _ | exact pre9_ok _ | exact pre40_ok _ | exact pre64_ok _ | assumption | omega | (simp only [List.length_append, List.length_cons, List.length_nil] <;> omega)) ?_
    | refine fin_ite (fun h => ?_) (fun h => ?_)
    | apply fin_23 | apply fin_24 | apply fin_25 | apply fin_26 | apply fin_27 | apply fin_28 | apply fin_29 | apply fin_30)
  all_goals first
    | omega | rfl | (simp only [List.length_append, List.length_cons, List.length_nil] <;> omega) | skip
  all_goals first
    | exact g_nil
    | exact g_one ⟨ieq_iff.1 (by assumption), rfl⟩
    | (exfalso; simp_all; done)
theorem c1 : Fin x (step7h1 x) (G0 x) := by
  have u1 := ulen x.2.2.2.1
  have u2 := ulen x.2.2.2.2.1
  simp only [step7h1, fn28_ok, beq_true, beq_false]
  repeat' (first
    | exact fin_ff (by assumption) | exact fin_tf (by assumption)
    | refine fin_need (by first | exact True.intro | exact pre28_ok _ | exact pre9_ok _ | exact pre40_ok _ | exact pre64_ok _ | assumption | omega | (simp only [List.length_append, List.length_cons, List.length_nil] <;> omega)) ?_
    | refine fin_ite (fun h => ?_) (fun h => ?_)
    | apply fin_23 | apply fin_24 | apply fin_25 | apply fin_26 | apply fin_27 | apply fin_28 | apply fin_29 | apply fin_30)
  all_goals first
    | omega | rfl | (simp only [List.length_append, List.length_cons, List.length_nil] <;> omega) | skip
  all_goals first
    | exact g_nil
    | exact g_one ⟨ieq_iff.1 (by assumption), rfl⟩
    | (exfalso; simp_all; done)
theorem c2 : Fin x (step7h2 x) (G0 x) := by
  have u1 := ulen x.2.2.2.1
  have u2 := ulen x.2.2.2.2.1
  simp only [step7h2, fn28_ok, beq_true, beq_false]
  repeat' (first
    | exact fin_ff (by assumption) | exact fin_tf (by assumption)
    | refine fin_need (by first | exact True.intro | exact pre28_ok _ | exact pre9_ok _ | exact pre40_ok _ | exact pre64_ok _ | assumption | omega | (simp only [List.length_append, List.length_cons, List.length_nil] <;> omega)) ?_
    | refine fin_ite (fun h => ?_) (fun h => ?_)
    | apply fin_23 | apply fin_24 | apply fin_25 | apply fin_26 | apply fin_27 | apply fin_28 | apply fin_29 | apply fin_30)
  all_goals first
    | omega | rfl | (simp only [List.length_append, List.length_cons, List.length_nil] <;> omega) | skip
  all_goals first
    | exact g_nil
    | exact g_one ⟨ieq_iff.1 (by assumption), rfl⟩
    | (exfalso; simp_all; done)
theorem c4 : Fin x (step7h4 x) (G0 x) := by
  have u1 := ulen x.2.2.2.1
  have u2 := ulen x.2.2.2.2.1
  simp only [step7h4, fn28_ok, beq_true, beq_false]
  repeat' (first
    | exact fin_ff (by assumption) | exact fin_tf (by assumption)
    | refine fin_need (by first | exact True.intro | exact pre28_ok _ | exact pre9_ok _ | exact pre40_ok _ | exact pre64_ok _ | assumption | omega | (simp only [List.length_append, List.length_cons, List.length_nil] <;> omega)) ?_
    | refine fin_ite (fun h => ?_) (fun h => ?_)
    | apply fin_23 | apply fin_24 | apply fin_25 | apply fin_26 | apply fin_27 | apply fin_28 | apply fin_29 | apply fin_30)
  all_goals first
    | omega | rfl | (simp only [List.length_append, List.length_cons, List.length_nil] <;> omega) | skip
  all_goals first
    | exact g_nil
    | exact g_one ⟨ieq_iff.1 (by assumption), rfl⟩
    | (exfalso; simp_all; done)
theorem c5 : Fin x (step7h5 x) (G0 x) := by
  have u1 := ulen x.2.2.2.1
  have u2 := ulen x.2.2.2.2.1
  simp only [step7h5, fn28_ok, beq_true, beq_false]
  repeat' (first
    | exact fin_ff (by assumption) | exact fin_tf (by assumption)
    | refine fin_need (by first | exact True.intro | exact pre28_ok _ | exact pre9_ok _ | exact pre40_ok _ | exact pre64_ok _ | assumption | omega | (simp only [List.length_append, List.length_cons, List.length_nil] <;> omega)) ?_
    | refine fin_ite (fun h => ?_) (fun h => ?_)
    | apply fin_23 | apply fin_24 | apply fin_25 | apply fin_26 | apply fin_27 | apply fin_28 | apply fin_29 | apply fin_30)
  all_goals first
    | omega | rfl | (simp only [List.length_append, List.length_cons, List.length_nil] <;> omega) | skip
  all_goals first
    | exact g_nil
    | exact g_one ⟨ieq_iff.1 (by assumption), rfl⟩
    | (exfalso; simp_all; done)
theorem c6 : Fin x (step7h6 x) (G0 x) := by
  have u1 := ulen x.2.2.2.1
  have u2 := ulen x.2.2.2.2.1
  simp only [step7h6, fn28_ok, beq_true, beq_false]
  repeat' (first
    | exact fin_ff (by assumption) | exact fin_tf (by assumption)
    | refine fin_need (by first | exact True.intro | exact pre28_ok _ | exact pre9_ok _ | exact pre40_ok _ | exact pre64_ok _ | assumption | omega | (simp only [List.length_append, List.length_cons, List.length_nil] <;> omega)) ?_
    | refine fin_ite (fun h => ?_) (fun h => ?_)
    | apply fin_23 | apply fin_24 | apply fin_25 | apply fin_26 | apply fin_27 | apply fin_28 | apply fin_29 | apply fin_30)
  all_goals first
    | omega | rfl | (simp only [List.length_append, List.length_cons, List.length_nil] <;> omega) | skip
  all_goals first
    | exact g_nil
    | exact g_one ⟨ieq_iff.1 (by assumption), rfl⟩
    | (exfalso; simp_all; done)
theorem c7 : Fin x (step7h7 x) (G0 x) := by
  have u1 := ulen x.2.2.2.1
  have u2 := ulen x.2.2.2.2.1
  simp only [step7h7, fn28_ok, beq_true, beq_false]
  repeat' (first
    | exact fin_ff (by assumption) | exact fin_tf (by assumption)
    | refine fin_need (by first | exact True.intro | exact pre28_ok _ | exact pre9_ok _ | exact pre40_ok _ | exact pre64_ok _ | assumption | omega | (simp only [List.length_append, List.length_cons, List.length_nil] <;> omega)) ?_
    | refine fin_ite (fun h => ?_) (fun h => ?_)
    | apply fin_23 | apply fin_24 | apply fin_25 | apply fin_26 | apply fin_27 | apply fin_28 | apply fin_29 | apply fin_30)
  all_goals first
    | omega | rfl | (simp only [List.length_append, List.length_cons, List.length_nil] <;> omega) | skip
  all_goals first
    | exact g_nil
    | exact g_one ⟨ieq_iff.1 (by assumption), rfl⟩
    | (exfalso; simp_all; done)
theorem c8 : Fin x (step7h8 x) (G0 x) := by
  have u1 := ulen x.2.2.2.1
  have u2 := ulen x.2.2.2.2.1
  simp only [step7h8, fn28_ok, beq_true, beq_false]
  repeat' (first
    | exact fin_ff (by assumption) | exact fin_tf (by assumption)
    | refine fin_need (by first | exact True.intro | exact pre28_ok _ | exact pre9_ok _ | exact pre40_ok _ | exact pre64_ok _ | assumption | omega | (simp only [List.length_append, List.length_cons, List.length_nil] <;> omega)) ?_
    | refine fin_ite (fun h => ?_) (fun h => ?_)
    | apply fin_23 | apply fin_24 | apply fin_25 | apply fin_26 | apply fin_27 | apply fin_28 | apply fin_29 | apply fin_30)
  all_goals first
    | omega | rfl | (simp only [List.length_append, List.length_cons, List.length_nil] <;> omega) | skip
  all_goals first
    | exact g_nil
    | exact g_one ⟨ieq_iff.1 (by assumption), rfl⟩
    | (exfalso; simp_all; done)
theorem c9 : Fin x (step7h9 x) (G0 x) := by
  have u1 := ulen x.2.2.2.1
  have u2 := ulen x.2.2.2.2.1
  simp only [step7h9, fn28_ok, beq_true, beq_false]
  repeat' (first
    | exact fin_ff (by assumption) | exact fin_tf (by assumption)
    | refine fin_need (by first | exact True.intro | exact pre28_ok _ | exact pre9_ok _ | exact pre40_ok _ | exact pre64_ok _ | assumption | omega | (simp only [List.length_append, List.length_cons, List.length_nil] <;> omega)) ?_
    | refine fin_ite (fun h => ?_) (fun h => ?_)
    | apply fin_23 | apply fin_24 | apply fin_25 | apply fin_26 | apply fin_27 | apply fin_28 | apply fin_29 | apply fin_30)
  all_goals first
    | omega | rfl | (simp only [List.length_append, List.length_cons, List.length_nil] <;> omega) | skip
  all_goals first
    | exact g_nil
    | exact g_one ⟨ieq_iff.1 (by assumption), rfl⟩
    | (exfalso; simp_all; done)
theorem c10 : Fin x (step7h10 x) (G0 x) := by
  have u1 := ulen x.2.2.2.1
  have u2 := ulen x.2.2.2.2.1
  simp only [step7h10, fn28_ok, beq_true, beq_false]
  repeat' (first
    | exact fin_ff (by assumption) | exact fin_tf (by assumption)
    | refine fin_need (by first | exact True.intro | exact pre28_ok _ | exact pre9_ok _ | exact pre40_ok _ | exact pre64_ok _ | assumption | omega | (simp only [List.length_append, List.length_cons, List.length_nil] <;> omega)) ?_
    | refine fin_ite (fun h => ?_) (fun h => ?_)
    | apply fin_23 | apply fin_24 | apply fin_25 | apply fin_26 | apply fin_27 | apply fin_28 | apply fin_29 | apply fin_30)
  all_goals first
    | omega | rfl | (simp only [List.length_append, List.length_cons, List.length_nil] <;> omega) | skip
  all_goals first
    | exact g_nil
    | exact g_one ⟨ieq_iff.1 (by assumption), rfl⟩
    | (exfalso; simp_all; done)
theorem c17 : Fin x (step7h17 x) (G0 x) := by
  have u1 := ulen x.2.2.2.1
  have u2 := ulen x.2.2.2.2.1
  simp only [step7h17, fn28_ok, beq_true, beq_false]
  repeat' (first
    | exact fin_ff (by assumption) | exact fin_tf (by assumption)
    | refine fin_need (by first | exact True.intro | exact pre28_ok _ | exact pre9_ok _ | exact pre40_ok _ | exact pre64_ok _ | assumption | omega | (simp only [List.length_append, List.length_cons, List.length_nil] <;> omega)) ?_
    | refine fin_ite (fun h => ?_) (fun h => ?_)
    | apply fin_23 | apply fin_24 | apply fin_25 | apply fin_26 | apply fin_27 | apply fin_28 | apply fin_29 | apply fin_30)
  all_goals first
    | omega | rfl | (simp only [List.length_append, List.length_cons, List.length_nil] <;> omega) | skip
  all_goals first
    | exact g_nil
    | exact g_one ⟨ieq_iff.1 (by assumption), rfl⟩
    | (exfalso; simp_all; done)
theorem c21 : Fin x (step7h21 x) (G0 x) := by
  have u1 := ulen x.2.2.2.1
  have u2 := ulen x.2.2.2.2.1
  simp only [step7h21, fn28_ok, beq_true, beq_false]
  repeat' (first
    | exact fin_ff (by assumption) | exact fin_tf (by assumption)
    | refine fin_need (by first | exact True.intro | exact pre28_ok _ | exact pre9_ok _ | exact pre40_ok _ | exact pre64_ok _ | assumption | omega | (simp only [List.length_append, List.length_cons, List.length_nil] <;> omega)) ?_
    | refine fin_ite (fun h => ?_) (fun h => ?_)
    | apply fin_23 | apply fin_24 | apply fin_25 | apply fin_26 | apply fin_27 | apply fin_28 | apply fin_29 | apply fin_30)
  all_goals first
    | omega | rfl | (simp only [List.length_append, List.length_cons, List.length_nil] <;> omega) | skip
  all_goals first
    | exact g_nil
    | exact g_one ⟨ieq_iff.1 (by assumption), rfl⟩
    | (exfalso; simp_all; done)
theorem uses_um : uses (2, (0, (4, ((-1), (1, (0, (false, 0))))))) = [4] := by decide
theorem c3n (hn : fn9 x = false) : Fin x (step7h3 x) (G0 x) := by
  have u1 := ulen x.2.2.2.1
  have u2 := ulen x.2.2.2.2.1
  simp only [step7h3, fn28_ok, beq_true, beq_false, hn, Bool.not_false]
  repeat' (first
    | exact fin_ff (by assumption) | exact fin_tf (by assumption)
    | refine fin_need (by first | exact True.intro | exact pre28_ok _ | exact pre9_ok _ | exact pre40_ok _ | exact pre64_ok _ | assumption | omega | (simp only [List.length_append, List.length_cons, List.length_nil] <;> omega)) ?_
    | refine fin_ite (fun h => ?_) (fun h => ?_)
    | apply fin_23 | apply fin_24 | apply fin_25 | apply fin_26 | apply fin_27 | apply fin_28 | apply fin_29 | apply fin_30)
  all_goals first
    | omega | rfl | (simp only [List.length_append, List.length_cons, List.length_nil] <;> omega) | skip
  all_goals first
    | exact g_nil
    | exact g_one ⟨ieq_iff.1 (by assumption), rfl⟩
    | (exfalso; simp_all; done)
theorem c3y (hn : fn9 x = true) (hk : ieq x.2.2.2.1.1 1 = true) : Fin x (step7h3 x) (fun R W A i o l s => R = [] ∧ W = [x.2.2.2.1.2.1] ∧ i = 0 ∧ l = 0 ∧ o = 31) := by
  have u1 := ulen x.2.2.2.1
  have u2 := ulen x.2.2.2.2.1
  simp only [step7h3, fn28_ok, beq_true, beq_false, hn, hk, Bool.not_true]
  repeat' (first
    | exact fin_ff (by assumption) | exact fin_tf (by assumption)
    | refine fin_need (by first | exact True.intro | exact pre28_ok _ | exact pre9_ok _ | exact pre40_ok _ | exact pre64_ok _ | assumption | omega | (simp only [List.length_append, List.length_cons, List.length_nil] <;> omega)) ?_
    | refine fin_ite (fun h => ?_) (fun h => ?_)
    | apply fin_23 | apply fin_24 | apply fin_25 | apply fin_26 | apply fin_27 | apply fin_28 | apply fin_29 | apply fin_30)
  all_goals first
    | omega | rfl | (simp only [List.length_append, List.length_cons, List.length_nil] <;> omega) | skip
  all_goals exact ⟨rfl, rfl, rfl, rfl, rfl⟩
theorem c22n (hn : fn9 x = false) : Fin x (step7h22 x) (G0 x) := by
  have u1 := ulen x.2.2.2.1
  have u2 := ulen x.2.2.2.2.1
  simp only [step7h22, fn28_ok, beq_true, beq_false, hn, Bool.not_false]
  repeat' (first
    | exact fin_ff (by assumption) | exact fin_tf (by assumption)
    | refine fin_need (by first | exact True.intro | exact pre28_ok _ | exact pre9_ok _ | exact pre40_ok _ | exact pre64_ok _ | assumption | omega | (simp only [List.length_append, List.length_cons, List.length_nil] <;> omega)) ?_
    | refine fin_ite (fun h => ?_) (fun h => ?_)
    | apply fin_23 | apply fin_24 | apply fin_25 | apply fin_26 | apply fin_27 | apply fin_28 | apply fin_29 | apply fin_30)
  all_goals first
    | omega | rfl | (simp only [List.length_append, List.length_cons, List.length_nil] <;> omega) | skip
  all_goals first
    | exact g_nil
    | exact g_one ⟨ieq_iff.1 (by assumption), rfl⟩
    | (exfalso; simp_all; done)
theorem c22y (hn : fn9 x = true) (hk : ieq x.2.2.2.1.1 1 = true) : Fin x (step7h22 x) (fun R W A i o l s => R = [] ∧ W = [x.2.2.2.1.2.1] ∧ i = 0 ∧ l = 0) := by
  have u1 := ulen x.2.2.2.1
  have u2 := ulen x.2.2.2.2.1
  simp only [step7h22, fn28_ok, beq_true, beq_false, hn, hk, Bool.not_true]
  repeat' (first
    | exact fin_ff (by assumption) | exact fin_tf (by assumption)
    | refine fin_need (by first | exact True.intro | exact pre28_ok _ | exact pre9_ok _ | exact pre40_ok _ | exact pre64_ok _ | assumption | omega | (simp only [List.length_append, List.length_cons, List.length_nil] <;> omega)) ?_
    | refine fin_ite (fun h => ?_) (fun h => ?_)
    | apply fin_23 | apply fin_24 | apply fin_25 | apply fin_26 | apply fin_27 | apply fin_28 | apply fin_29 | apply fin_30)
  all_goals first
    | omega | rfl | (simp only [List.length_append, List.length_cons, List.length_nil] <;> omega) | skip
  all_goals exact ⟨rfl, rfl, rfl, rfl⟩
theorem c11 : Fin x (step7h11 x) (fun R W A i o l s => W = [0, 2]) := by
  have u1 := ulen x.2.2.2.1
  have u2 := ulen x.2.2.2.2.1
  simp only [step7h11, fn28_ok, beq_true, beq_false]
  repeat' (first
    | exact fin_ff (by assumption) | exact fin_tf (by assumption)
    | refine fin_need (by first | exact True.intro | exact pre28_ok _ | exact pre9_ok _ | exact pre40_ok _ | exact pre64_ok _ | assumption | omega | (simp only [List.length_append, List.length_cons, List.length_nil] <;> omega)) ?_
    | refine fin_ite (fun h => ?_) (fun h => ?_)
    | apply fin_23 | apply fin_24 | apply fin_25 | apply fin_26 | apply fin_27 | apply fin_28 | apply fin_29 | apply fin_30)
  all_goals first
    | omega | rfl | (simp only [List.length_append, List.length_cons, List.length_nil] <;> omega) | skip
  all_goals rfl
theorem c12 : Fin x (step7h12 x) (fun R W A i o l s => W = [0, 2]) := by
  have u1 := ulen x.2.2.2.1
  have u2 := ulen x.2.2.2.2.1
  simp only [step7h12, fn28_ok, beq_true, beq_false]
  repeat' (first
    | exact fin_ff (by assumption) | exact fin_tf (by assumption)
    | refine fin_need (by first | exact True.intro | exact pre28_ok _ | exact pre9_ok _ | exact pre40_ok _ | exact pre64_ok _ | assumption | omega | (simp only [List.length_append, List.length_cons, List.length_nil] <;> omega)) ?_
    | refine fin_ite (fun h => ?_) (fun h => ?_)
    | apply fin_23 | apply fin_24 | apply fin_25 | apply fin_26 | apply fin_27 | apply fin_28 | apply fin_29 | apply fin_30)
  all_goals first
    | omega | rfl | (simp only [List.length_append, List.length_cons, List.length_nil] <;> omega) | skip
  all_goals rfl
theorem c13 : Fin x (step7h13 x) (fun R W A i o l s => W = [4] ∧ 4 ∈ A) := by
  have u1 := ulen x.2.2.2.1
  have u2 := ulen x.2.2.2.2.1
  simp only [step7h13, fn28_ok, beq_true, beq_false, uses_um]
  repeat' (first
    | exact fin_ff (by assumption) | exact fin_tf (by assumption)
    | refine fin_need (by first | exact True.intro | exact pre28_ok _ | exact pre9_ok _ | exact pre40_ok _ | exact pre64_ok _ | assumption | omega | (simp only [List.length_append, List.length_cons, List.length_nil] <;> omega)) ?_
    | refine fin_ite (fun h => ?_) (fun h => ?_)
    | apply fin_23 | apply fin_24 | apply fin_25 | apply fin_26 | apply fin_27 | apply fin_28 | apply fin_29 | apply fin_30)
  all_goals first
    | omega | rfl | (simp only [List.length_append, List.length_cons, List.length_nil] <;> omega) | skip
  all_goals exact ⟨rfl, by simp⟩
theorem c14 : Fin x (step7h14 x) (fun R W A i o l s => (W = [4] ∨ (W = [4, x.2.2.2.1.2.1] ∧ x.2.2.2.1.1 = 1)) ∧ 4 ∈ A) := by
  have u1 := ulen x.2.2.2.1
  have u2 := ulen x.2.2.2.2.1
  simp only [step7h14, fn28_ok, beq_true, beq_false, uses_um]
  repeat' (first
    | exact fin_ff (by assumption) | exact fin_tf (by assumption)
    | refine fin_need (by first | exact True.intro | exact pre28_ok _ | exact pre9_ok _ | exact pre40_ok _ | exact pre64_ok _ | assumption | omega | (simp only [List.length_append, List.length_cons, List.length_nil] <;> omega)) ?_
    | refine fin_ite (fun h => ?_) (fun h => ?_)
    | apply fin_23 | apply fin_24 | apply fin_25 | apply fin_26 | apply fin_27 | apply fin_28 | apply fin_29 | apply fin_30)
  all_goals first
    | omega | rfl | (simp only [List.length_append, List.length_cons, List.length_nil] <;> omega) | skip
  all_goals first | exact ⟨.inl rfl, by simp⟩ | exact ⟨.inr ⟨rfl, ieq_iff.1 (by assumption)⟩, by simp⟩
theorem c15 : Fin x (step7h15 x) (fun R W A i o l s => W = [4] ∧ 4 ∈ A) := by
  have u1 := ulen x.2.2.2.1
  have u2 := ulen x.2.2.2.2.1
  simp only [step7h15, fn28_ok, beq_true, beq_false, uses_um]
  repeat' (first
    | exact fin_ff (by assumption) | exact fin_tf (by assumption)
    | refine fin_need (by first | exact True.intro | exact pre28_ok _ | exact pre9_ok _ | exact pre40_ok _ | exact pre64_ok _ | assumption | omega | (simp only [List.length_append, List.length_cons, List.length_nil] <;> omega)) ?_
    | refine fin_ite (fun h => ?_) (fun h => ?_)
    | apply fin_23 | apply fin_24 | apply fin_25 | apply fin_26 | apply fin_27 | apply fin_28 | apply fin_29 | apply fin_30)
  all_goals first
    | omega | rfl | (simp only [List.length_append, List.length_cons, List.length_nil] <;> omega) | skip
  all_goals exact ⟨rfl, by simp⟩
theorem c16 : Fin x (step7h16 x) (fun R W A i o l s => W = [4] ∧ 4 ∈ A) := by
  have u1 := ulen x.2.2.2.1
  have u2 := ulen x.2.2.2.2.1
  simp only [step7h16, fn28_ok, beq_true, beq_false, uses_um]
  repeat' (first
    | exact fin_ff (by assumption) | exact fin_tf (by assumption)
    | refine fin_need (by first | exact True.intro | exact pre28_ok _ | exact pre9_ok _ | exact pre40_ok _ | exact pre64_ok _ | assumption | omega | (simp only [List.length_append, List.length_cons, List.length_nil] <;> omega)) ?_
    | refine fin_ite (fun h => ?_) (fun h => ?_)
    | apply fin_23 | apply fin_24 | apply fin_25 | apply fin_26 | apply fin_27 | apply fin_28 | apply fin_29 | apply fin_30)
  all_goals first
    | omega | rfl | (simp only [List.length_append, List.length_cons, List.length_nil] <;> omega) | skip
  all_goals exact ⟨rfl, by simp⟩
theorem c18 (hc : pre10 x.2.1) : Fin x (step7h18 x) (fun R W A i o l s => G0 x R W A i o l s ∧ i = fn10 x.2.1) := by
  have u1 := ulen x.2.2.2.1
  have u2 := ulen x.2.2.2.2.1
  simp only [step7h18, fn28_ok, beq_true, beq_false]
  repeat' (first
    | exact fin_ff (by assumption) | exact fin_tf (by assumption)
    | refine fin_need (by first | exact True.intro | exact pre28_ok _ | exact pre9_ok _ | exact pre40_ok _ | exact pre64_ok _ | assumption | omega | (simp only [List.length_append, List.length_cons, List.length_nil] <;> omega)) ?_
    | refine fin_ite (fun h => ?_) (fun h => ?_)
    | apply fin_23 | apply fin_24 | apply fin_25 | apply fin_26 | apply fin_27 | apply fin_28 | apply fin_29 | apply fin_30)
  all_goals first
    | omega | rfl | (simp only [List.length_append, List.length_cons, List.length_nil] <;> omega) | skip
  all_goals exact ⟨g_nil, rfl⟩
theorem c19 (hc : pre10 x.2.1) : Fin x (step7h19 x) (fun R W A i o l s => G0 x R W A i o l s ∧ i = fn10 x.2.1) := by
  have u1 := ulen x.2.2.2.1
  have u2 := ulen x.2.2.2.2.1
  simp only [step7h19, fn28_ok, beq_true, beq_false]
  repeat' (first
    | exact fin_ff (by assumption) | exact fin_tf (by assumption)
    | refine fin_need (by first | exact True.intro | exact pre28_ok _ | exact pre9_ok _ | exact pre40_ok _ | exact pre64_ok _ | assumption | omega | (simp only [List.length_append, List.length_cons, List.length_nil] <;> omega)) ?_
    | refine fin_ite (fun h => ?_) (fun h => ?_)
    | apply fin_23 | apply fin_24 | apply fin_25 | apply fin_26 | apply fin_27 | apply fin_28 | apply fin_29 | apply fin_30)
  all_goals first
    | omega | rfl | (simp only [List.length_append, List.length_cons, List.length_nil] <;> omega) | skip
  all_goals first | exact ⟨g_nil, rfl⟩ | exact ⟨g_one ⟨ieq_iff.1 (by assumption), rfl⟩, rfl⟩ | exact fin_two (by assumption) (by assumption)
theorem c20 (hc : pre10 x.2.1) : Fin x (step7h20 x) (fun R W A i o l s => G0 x R W A i o l s ∧ i = fn10 x.2.1) := by
  have u1 := ulen x.2.2.2.1
  have u2 := ulen x.2.2.2.2.1
  simp only [step7h20, fn28_ok, beq_true, beq_false]
  repeat' (first
    | exact fin_ff (by assumption) | exact fin_tf (by assumption)
    | refine fin_need (by first | exact True.intro | exact pre28_ok _ | exact pre9_ok _ | exact pre40_ok _ | exact pre64_ok _ | assumption | omega | (simp only [List.length_append, List.length_cons, List.length_nil] <;> omega)) ?_
    | refine fin_ite (fun h => ?_) (fun h => ?_)
    | apply fin_23 | apply fin_24 | apply fin_25 | apply fin_26 | apply fin_27 | apply fin_28 | apply fin_29 | apply fin_30)
  all_goals first
    | omega | rfl | (simp only [List.length_append, List.length_cons, List.length_nil] <;> omega) | skip
  all_goals first | exact ⟨g_nil, rfl⟩ | exact ⟨g_one ⟨ieq_iff.1 (by assumption), rfl⟩, rfl⟩ | exact fin_two (by assumption) (by assumption)
end Go.Eng.RU
end
section
/- facts.Of: what it tells. -/
namespace Go.Eng.RU
open Go.Eng
set_option maxRecDepth 100000
set_option linter.unusedSectionVars false
set_option linter.unusedSimpArgs false
set_option linter.unusedVariables false
def stk (x : DInsn) : Prop := x.1 = 24 ∨ x.1 = 25 ∨ x.1 = 26 ∨ x.1 = 27
def cnd (x : DInsn) : Prop := x.1 = 29 ∨ x.1 = 30 ∨ x.1 = 31
structure GG (x : DInsn) (R W A : List Int) (i o l s : Int) : Prop where
  writes : ∀ n ∈ W, (x.2.2.2.1.1 = 1 ∧ n = x.2.2.2.1.2.1) ∨ (stk x ∧ n = 4) ∨ ((x.1 = 22 ∨ x.1 = 23) ∧ (n = 0 ∨ n = 2))
  stack : stk x → 4 ∈ W ∧ 4 ∈ A
  nought : fn9 x = true → R = [] ∧ W = [x.2.2.2.1.2.1] ∧ i = 0 ∧ l = 0
  xor : fn9 x = true → x.1 = 9 → o = 31
  cond : cnd x → i = fn10 x.2.1
variable {x : DInsn} {R W A : List Int} {i o l s : Int}
theorem no9 (h : x.1 ≠ 9 ∧ x.1 ≠ 8 ∧ x.1 ≠ 36) : fn9 x = false := by
  rw [Bool.eq_false_iff]
  intro k
  have := (nought_iff.1 k).1
  omega
theorem gg_plain (h1 : ¬ stk x) (h2 : fn9 x = false) (h3 : ¬ cnd x) (g : G0 x R W A i o l s) : GG x R W A i o l s :=
  ⟨fun n hn => .inl (g n hn), fun h => absurd h h1, fun h => (by rw [h2] at h; cases h), fun h => (by rw [h2] at h; cases h), fun h => absurd h h3⟩
theorem gg_nought (h1 : ¬ stk x) (h3 : ¬ cnd x) (hk : x.2.2.2.1.1 = 1) (h : R = [] ∧ W = [x.2.2.2.1.2.1] ∧ i = 0 ∧ l = 0) (ho : x.1 = 9 → o = 31) : GG x R W A i o l s :=
  ⟨fun n hn => .inl ⟨hk, by rw [h.2.1] at hn; exact List.mem_singleton.1 hn⟩, fun h => absurd h h1, fun _ => h, fun _ => ho, fun h => absurd h h3⟩
theorem gg_mul (h : x.1 = 22 ∨ x.1 = 23) (h2 : fn9 x = false) (g : W = [0, 2]) : GG x R W A i o l s :=
  ⟨fun n hn => .inr (.inr ⟨h, by rw [g] at hn; simpa using hn⟩), fun h => (by unfold stk at h; omega), fun h => (by rw [h2] at h; cases h), fun h => (by rw [h2] at h; cases h), fun h => (by unfold cnd at h; omega)⟩
theorem gg_stack (h1 : stk x) (h2 : fn9 x = false) (g : W = [4] ∧ 4 ∈ A) : GG x R W A i o l s :=
  ⟨fun n hn => .inr (.inl ⟨h1, by rw [g.1] at hn; exact List.mem_singleton.1 hn⟩), fun h => ⟨by rw [g.1]; simp, g.2⟩, fun h => (by rw [h2] at h; cases h), fun h => (by rw [h2] at h; cases h), fun h => (by unfold cnd at h; unfold stk at h1; omega)⟩
theorem gg_pop (h1 : stk x) (h2 : fn9 x = false) (g : (W = [4] ∨ (W = [4, x.2.2.2.1.2.1] ∧ x.2.2.2.1.1 = 1)) ∧ 4 ∈ A) : GG x R W A i o l s := by
  rcases g with ⟨g | ⟨g, hk⟩, hA⟩
  · exact gg_stack h1 h2 ⟨g, hA⟩
  · refine ⟨fun n hn => ?_, fun h => ⟨by rw [g]; simp, hA⟩, fun h => (by rw [h2] at h; cases h), fun h => (by rw [h2] at h; cases h), fun h => (by unfold cnd at h; unfold stk at h1; omega)⟩
    rw [g] at hn
    simp at hn
    rcases hn with rfl | rfl
    · exact .inr (.inl ⟨h1, rfl⟩)
    · exact .inl ⟨hk, rfl⟩
theorem gg_cond (h1 : ¬ stk x) (h2 : fn9 x = false) (g : G0 x R W A i o l s ∧ i = fn10 x.2.1) : GG x R W A i o l s :=
  ⟨fun n hn => .inl (g.1 n hn), fun h => absurd h h1, fun h => (by rw [h2] at h; cases h), fun h => (by rw [h2] at h; cases h), fun _ => g.2⟩
set_option maxHeartbeats 4000000 in
theorem of_fin (hc : pre10 x.2.1) : Fin x (tree7 x) (GG x) := by
  unfold tree7
  refine fin_need pre15_ok ?_
  refine fin_ite (fun h => ?_) (fun h35 => ?_)
  · have hd := ieq_iff.1 h
    refine fin_jump ?_
    show Fin x (step7h0 x) (GG x)
    exact fin_imp c0 fun R W A i o l s g => gg_plain (by unfold stk; omega) (no9 (by omega)) (by unfold cnd; omega) g
  replace h35 := ieq_no.1 h35
  refine fin_ite (fun h => ?_) (fun h1 => ?_)
  · have hd := ieq_iff.1 h
    refine fin_jump ?_
    show Fin x (step7h1 x) (GG x)
    exact fin_imp c1 fun R W A i o l s g => gg_plain (by unfold stk; omega) (no9 (by omega)) (by unfold cnd; omega) g
  replace h1 := ieq_no.1 h1
  refine fin_ite (fun h => ?_) (fun h2 => ?_)
  · have hd := ieq_iff.1 h
    refine fin_jump ?_
    show Fin x (step7h2 x) (GG x)
    exact fin_imp c2 fun R W A i o l s g => gg_plain (by unfold stk; omega) (no9 (by omega)) (by unfold cnd; omega) g
  replace h2 := ieq_no.1 h2
  refine fin_ite (fun h => ?_) (fun h3 => ?_)
  · have hd := ieq_iff.1 h
    refine fin_jump ?_
    show Fin x (step7h3 x) (GG x)
    exact fin_imp (c3n (no9 (by omega))) fun R W A i o l s g => gg_plain (by unfold stk; omega) (no9 (by omega)) (by unfold cnd; omega) g
  replace h3 := ieq_no.1 h3
  refine fin_ite (fun h => ?_) (fun h4 => ?_)
  · have hd := ieq_iff.1 h
    refine fin_jump ?_
    show Fin x (step7h3 x) (GG x)
    exact fin_imp (c3n (no9 (by omega))) fun R W A i o l s g => gg_plain (by unfold stk; omega) (no9 (by omega)) (by unfold cnd; omega) g
  replace h4 := ieq_no.1 h4
  refine fin_ite (fun h => ?_) (fun h7 => ?_)
  · have hd := ieq_iff.1 h
    refine fin_jump ?_
    show Fin x (step7h3 x) (GG x)
    exact fin_imp (c3n (no9 (by omega))) fun R W A i o l s g => gg_plain (by unfold stk; omega) (no9 (by omega)) (by unfold cnd; omega) g
  replace h7 := ieq_no.1 h7
  refine fin_ite (fun h => ?_) (fun h8 => ?_)
  · have hd := ieq_iff.1 h
    refine fin_jump ?_
    show Fin x (step7h3 x) (GG x)
    exact by
      cases hn : fn9 x with
      | false => exact fin_imp (c3n hn) fun R W A i o l s g => gg_plain (by unfold stk; omega) hn (by unfold cnd; omega) g
      | true => exact fin_imp (c3y hn (ieq_iff.2 (nought_iff.1 hn).2.1)) fun R W A i o l s g => gg_nought (by unfold stk; omega) (by unfold cnd; omega) (nought_iff.1 hn).2.1 ⟨g.1, g.2.1, g.2.2.1, g.2.2.2.1⟩ (fun _ => g.2.2.2.2)
  replace h8 := ieq_no.1 h8
  refine fin_ite (fun h => ?_) (fun h9 => ?_)
  · have hd := ieq_iff.1 h
    refine fin_jump ?_
    show Fin x (step7h3 x) (GG x)
    exact by
      cases hn : fn9 x with
      | false => exact fin_imp (c3n hn) fun R W A i o l s g => gg_plain (by unfold stk; omega) hn (by unfold cnd; omega) g
      | true => exact fin_imp (c3y hn (ieq_iff.2 (nought_iff.1 hn).2.1)) fun R W A i o l s g => gg_nought (by unfold stk; omega) (by unfold cnd; omega) (nought_iff.1 hn).2.1 ⟨g.1, g.2.1, g.2.2.1, g.2.2.2.1⟩ (fun _ => g.2.2.2.2)
  replace h9 := ieq_no.1 h9
  refine fin_ite (fun h => ?_) (fun h21 => ?_)
  · have hd := ieq_iff.1 h
    refine fin_jump ?_
    show Fin x (step7h3 x) (GG x)
    exact fin_imp (c3n (no9 (by omega))) fun R W A i o l s g => gg_plain (by unfold stk; omega) (no9 (by omega)) (by unfold cnd; omega) g
  replace h21 := ieq_no.1 h21
  refine fin_ite (fun h => ?_) (fun h5 => ?_)
  · have hd := ieq_iff.1 h
    refine fin_jump ?_
    show Fin x (step7h4 x) (GG x)
    exact fin_imp c4 fun R W A i o l s g => gg_plain (by unfold stk; omega) (no9 (by omega)) (by unfold cnd; omega) g
  replace h5 := ieq_no.1 h5
  refine fin_ite (fun h => ?_) (fun h6 => ?_)
  · have hd := ieq_iff.1 h
    refine fin_jump ?_
    show Fin x (step7h4 x) (GG x)
    exact fin_imp c4 fun R W A i o l s g => gg_plain (by unfold stk; omega) (no9 (by omega)) (by unfold cnd; omega) g
  replace h6 := ieq_no.1 h6
  refine fin_ite (fun h => ?_) (fun h10 => ?_)
  · have hd := ieq_iff.1 h
    refine fin_jump ?_
    show Fin x (step7h5 x) (GG x)
    exact fin_imp c5 fun R W A i o l s g => gg_plain (by unfold stk; omega) (no9 (by omega)) (by unfold cnd; omega) g
  replace h10 := ieq_no.1 h10
  refine fin_ite (fun h => ?_) (fun h11 => ?_)
  · have hd := ieq_iff.1 h
    refine fin_jump ?_
    show Fin x (step7h5 x) (GG x)
    exact fin_imp c5 fun R W A i o l s g => gg_plain (by unfold stk; omega) (no9 (by omega)) (by unfold cnd; omega) g
  replace h11 := ieq_no.1 h11
  refine fin_ite (fun h => ?_) (fun h12 => ?_)
  · have hd := ieq_iff.1 h
    refine fin_jump ?_
    show Fin x (step7h6 x) (GG x)
    exact fin_imp c6 fun R W A i o l s g => gg_plain (by unfold stk; omega) (no9 (by omega)) (by unfold cnd; omega) g
  replace h12 := ieq_no.1 h12
  refine fin_ite (fun h => ?_) (fun h13 => ?_)
  · have hd := ieq_iff.1 h
    refine fin_jump ?_
    show Fin x (step7h6 x) (GG x)
    exact fin_imp c6 fun R W A i o l s g => gg_plain (by unfold stk; omega) (no9 (by omega)) (by unfold cnd; omega) g
  replace h13 := ieq_no.1 h13
  refine fin_ite (fun h => ?_) (fun h14 => ?_)
  · have hd := ieq_iff.1 h
    refine fin_jump ?_
    show Fin x (step7h7 x) (GG x)
    exact fin_imp c7 fun R W A i o l s g => gg_plain (by unfold stk; omega) (no9 (by omega)) (by unfold cnd; omega) g
  replace h14 := ieq_no.1 h14
  refine fin_ite (fun h => ?_) (fun h15 => ?_)
  · have hd := ieq_iff.1 h
    refine fin_jump ?_
    show Fin x (step7h8 x) (GG x)
    exact fin_imp c8 fun R W A i o l s g => gg_plain (by unfold stk; omega) (no9 (by omega)) (by unfold cnd; omega) g
  replace h15 := ieq_no.1 h15
  refine fin_ite (fun h => ?_) (fun h16 => ?_)
  · have hd := ieq_iff.1 h
    refine fin_jump ?_
    show Fin x (step7h9 x) (GG x)
    exact fin_imp c9 fun R W A i o l s g => gg_plain (by unfold stk; omega) (no9 (by omega)) (by unfold cnd; omega) g
  replace h16 := ieq_no.1 h16
  refine fin_ite (fun h => ?_) (fun h17 => ?_)
  · have hd := ieq_iff.1 h
    refine fin_jump ?_
    show Fin x (step7h9 x) (GG x)
    exact fin_imp c9 fun R W A i o l s g => gg_plain (by unfold stk; omega) (no9 (by omega)) (by unfold cnd; omega) g
  replace h17 := ieq_no.1 h17
  refine fin_ite (fun h => ?_) (fun h18 => ?_)
  · have hd := ieq_iff.1 h
    refine fin_jump ?_
    show Fin x (step7h9 x) (GG x)
    exact fin_imp c9 fun R W A i o l s g => gg_plain (by unfold stk; omega) (no9 (by omega)) (by unfold cnd; omega) g
  replace h18 := ieq_no.1 h18
  refine fin_ite (fun h => ?_) (fun h19 => ?_)
  · have hd := ieq_iff.1 h
    refine fin_jump ?_
    show Fin x (step7h10 x) (GG x)
    exact fin_imp c10 fun R W A i o l s g => gg_plain (by unfold stk; omega) (no9 (by omega)) (by unfold cnd; omega) g
  replace h19 := ieq_no.1 h19
  refine fin_ite (fun h => ?_) (fun h20 => ?_)
  · have hd := ieq_iff.1 h
    refine fin_jump ?_
    show Fin x (step7h10 x) (GG x)
    exact fin_imp c10 fun R W A i o l s g => gg_plain (by unfold stk; omega) (no9 (by omega)) (by unfold cnd; omega) g
  replace h20 := ieq_no.1 h20
  refine fin_ite (fun h => ?_) (fun h22 => ?_)
  · have hd := ieq_iff.1 h
    refine fin_jump ?_
    show Fin x (step7h11 x) (GG x)
    exact fin_imp c11 fun R W A i o l s g => gg_mul (by omega) (no9 (by omega)) g
  replace h22 := ieq_no.1 h22
  refine fin_ite (fun h => ?_) (fun h23 => ?_)
  · have hd := ieq_iff.1 h
    refine fin_jump ?_
    show Fin x (step7h12 x) (GG x)
    exact fin_imp c12 fun R W A i o l s g => gg_mul (by omega) (no9 (by omega)) g
  replace h23 := ieq_no.1 h23
  refine fin_ite (fun h => ?_) (fun h24 => ?_)
  · have hd := ieq_iff.1 h
    refine fin_jump ?_
    show Fin x (step7h13 x) (GG x)
    exact fin_imp c13 fun R W A i o l s g => gg_stack (by unfold stk; omega) (no9 (by omega)) g
  replace h24 := ieq_no.1 h24
  refine fin_ite (fun h => ?_) (fun h25 => ?_)
  · have hd := ieq_iff.1 h
    refine fin_jump ?_
    show Fin x (step7h14 x) (GG x)
    exact fin_imp c14 fun R W A i o l s g => gg_pop (by unfold stk; omega) (no9 (by omega)) g
  replace h25 := ieq_no.1 h25
  refine fin_ite (fun h => ?_) (fun h26 => ?_)
  · have hd := ieq_iff.1 h
    refine fin_jump ?_
    show Fin x (step7h15 x) (GG x)
    exact fin_imp c15 fun R W A i o l s g => gg_stack (by unfold stk; omega) (no9 (by omega)) g
  replace h26 := ieq_no.1 h26
  refine fin_ite (fun h => ?_) (fun h27 => ?_)
  · have hd := ieq_iff.1 h
    refine fin_jump ?_
    show Fin x (step7h16 x) (GG x)
    exact fin_imp c16 fun R W A i o l s g => gg_stack (by unfold stk; omega) (no9 (by omega)) g
  replace h27 := ieq_no.1 h27
  refine fin_ite (fun h => ?_) (fun h28 => ?_)
  · have hd := ieq_iff.1 h
    refine fin_jump ?_
    show Fin x (step7h17 x) (GG x)
    exact fin_imp c17 fun R W A i o l s g => gg_plain (by unfold stk; omega) (no9 (by omega)) (by unfold cnd; omega) g
  replace h28 := ieq_no.1 h28
  refine fin_ite (fun h => ?_) (fun h29 => ?_)
  · have hd := ieq_iff.1 h
    refine fin_jump ?_
    show Fin x (step7h18 x) (GG x)
    exact fin_imp (c18 hc) fun R W A i o l s g => gg_cond (by unfold stk; omega) (no9 (by omega)) g
  replace h29 := ieq_no.1 h29
  refine fin_ite (fun h => ?_) (fun h30 => ?_)
  · have hd := ieq_iff.1 h
    refine fin_jump ?_
    show Fin x (step7h19 x) (GG x)
    exact fin_imp (c19 hc) fun R W A i o l s g => gg_cond (by unfold stk; omega) (no9 (by omega)) g
  replace h30 := ieq_no.1 h30
  refine fin_ite (fun h => ?_) (fun h31 => ?_)
  · have hd := ieq_iff.1 h
    refine fin_jump ?_
    show Fin x (step7h20 x) (GG x)
    exact fin_imp (c20 hc) fun R W A i o l s g => gg_cond (by unfold stk; omega) (no9 (by omega)) g
  replace h31 := ieq_no.1 h31
  refine fin_ite (fun h => ?_) (fun h32 => ?_)
  · have hd := ieq_iff.1 h
    refine fin_jump ?_
    show Fin x (step7h21 x) (GG x)
    exact fin_imp c21 fun R W A i o l s g => gg_plain (by unfold stk; omega) (no9 (by omega)) (by unfold cnd; omega) g
  replace h32 := ieq_no.1 h32
  refine fin_ite (fun h => ?_) (fun h33 => ?_)
  · have hd := ieq_iff.1 h
    refine fin_jump ?_
    show Fin x (step7h21 x) (GG x)
    exact fin_imp c21 fun R W A i o l s g => gg_plain (by unfold stk; omega) (no9 (by omega)) (by unfold cnd; omega) g
  replace h33 := ieq_no.1 h33
  refine fin_ite (fun h => ?_) (fun h36 => ?_)
  · have hd := ieq_iff.1 h
    refine fin_jump ?_
    show Fin x (step7h22 x) (GG x)
    exact by
      cases hn : fn9 x with
      | false => exact fin_imp (c22n hn) fun R W A i o l s g => gg_plain (by unfold stk; omega) hn (by unfold cnd; omega) g
      | true => exact fin_imp (c22y hn (ieq_iff.2 (nought_iff.1 hn).2.1)) fun R W A i o l s g => gg_nought (by unfold stk; omega) (by unfold cnd; omega) (nought_iff.1 hn).2.1 g (fun _ => absurd ‹x.1 = 9› (by omega))
  replace h36 := ieq_no.1 h36
  refine fin_ite (fun h => ?_) (fun h37 => ?_)
  · have hd := ieq_iff.1 h
    refine fin_jump ?_
    show Fin x (step7h22 x) (GG x)
    exact fin_imp (c22n (no9 (by omega))) fun R W A i o l s g => gg_plain (by unfold stk; omega) (no9 (by omega)) (by unfold cnd; omega) g
  replace h37 := ieq_no.1 h37
  refine fin_ite (fun h => ?_) (fun h38 => ?_)
  · have hd := ieq_iff.1 h
    refine fin_jump ?_
    show Fin x (step7h22 x) (GG x)
    exact fin_imp (c22n (no9 (by omega))) fun R W A i o l s g => gg_plain (by unfold stk; omega) (no9 (by omega)) (by unfold cnd; omega) g
  replace h38 := ieq_no.1 h38
  refine fin_ite (fun h => ?_) (fun h39 => ?_)
  · have hd := ieq_iff.1 h
    refine fin_jump ?_
    show Fin x (step7h22 x) (GG x)
    exact fin_imp (c22n (no9 (by omega))) fun R W A i o l s g => gg_plain (by unfold stk; omega) (no9 (by omega)) (by unfold cnd; omega) g
  replace h39 := ieq_no.1 h39
  refine fin_23 ⟨g_nil, fun h => ?_, fun h => ?_, fun h => ?_, fun h => ?_⟩
  · unfold stk at h; omega
  · have := (nought_iff.1 h).1; omega
  · have := (nought_iff.1 h).1; omega
  · unfold cnd at h; omega
theorem of_ok (x : DInsn) (hc : pre10 x.2.1) : pre7 x ∧ ∃ R W A i o l s, fn7 x = fin7 x R W A i o l s ∧ (R.length ≤ 1000 ∧ W.length ≤ 1000 ∧ A.length ≤ 1000) ∧ GG x R W A i o l s := by
  obtain ⟨R, W, A, i, o, l, s, h, hl, g⟩ := of_fin hc
  exact ⟨⟨_, h⟩, R, W, A, i, o, l, s, endVal_eq h, hl, g⟩
end Go.Eng.RU
end
section
/- Functions of this program, written out. -/
namespace Go.Eng.RU
open Go.Proofs Go.Eng
set_option maxRecDepth 100000

/-! ### sundial/facts.Targets -/
noncomputable def tree14 (x : (DInsn × Int)) : Tr (List Int) :=
  let y0 : Int := x.1.1
  .ite (ieq y0 27) (
  .ret ([] : List Int)) (
  let y1 : Bool := ((ieq y0 28) == false)
  .ite y1 (
  let y2 : Bool := (ieq y0 26)
  .ite (y2 == true) (
  let y3 : (DOperand × (Int × Int)) := x.1.2.2.2.2
  let y4 : DOperand := y3.1
  let y5 : Bool := (ine y4.1 3)
  .ite y5 (
  .ret ([] : List Int)) (
  .ite y1 (
  .ite y2 (
  .need ((0 : Nat) < 1) <|
  .need (((0 : Nat) + 1 : Nat) ≤ 1) <|
  let y6 : Int := (iadd .u64 x.2 (iconv .u64 y3.2.2))
  let y7 : Int := (iadd .u64 y6 (iconv .u64 y4.2.2.2.2.2.2.2))
  let y8 : (List Int) := [y7]
  .ret y8) (
  let y9 : Bool := (ieq y0 29)
  .ite y9 (
  .need ((0 : Nat) < 2) <|
  .need ((1 : Nat) < 2) <|
  .need (((0 : Nat) + 2 : Nat) ≤ 2) <|
  let y10 : Int := (iadd .u64 x.2 (iconv .u64 y3.2.2))
  let y11 : Int := (iadd .u64 y10 (iconv .u64 y4.2.2.2.2.2.2.2))
  let y12 : (List Int) := [y10, y11]
  .ret y12) (
  .need ((0 : Nat) < 1) <|
  .need (((0 : Nat) + 1 : Nat) ≤ 1) <|
  let y13 : Int := (iadd .u64 x.2 (iconv .u64 y3.2.2))
  let y14 : (List Int) := [y13]
  .ret y14))) (
  .need ((0 : Nat) < 1) <|
  .need (((0 : Nat) + 1 : Nat) ≤ 1) <|
  let y15 : Int := (iadd .u64 x.2 (iconv .u64 y3.2.2))
  let y16 : Int := (iadd .u64 y15 (iconv .u64 y4.2.2.2.2.2.2.2))
  let y17 : (List Int) := [y16]
  .ret y17))) (
  .ite y1 (
  .ite y2 (
  .need ((0 : Nat) < 1) <|
  .need (((0 : Nat) + 1 : Nat) ≤ 1) <|
  let y18 : (DOperand × (Int × Int)) := x.1.2.2.2.2
  let y19 : Int := (iadd .u64 x.2 (iconv .u64 y18.2.2))
  let y20 : DOperand := y18.1
  let y21 : Int := (iadd .u64 y19 (iconv .u64 y20.2.2.2.2.2.2.2))
  let y22 : (List Int) := [y21]
  .ret y22) (
  let y23 : Bool := (ieq y0 29)
  .ite y23 (
  .need ((0 : Nat) < 2) <|
  .need ((1 : Nat) < 2) <|
  .need (((0 : Nat) + 2 : Nat) ≤ 2) <|
  let y24 : (DOperand × (Int × Int)) := x.1.2.2.2.2
  let y25 : Int := (iadd .u64 x.2 (iconv .u64 y24.2.2))
  let y26 : DOperand := y24.1
  let y27 : Int := (iadd .u64 y25 (iconv .u64 y26.2.2.2.2.2.2.2))
  let y28 : (List Int) := [y25, y27]
  .ret y28) (
  .need ((0 : Nat) < 1) <|
  .need (((0 : Nat) + 1 : Nat) ≤ 1) <|
  let y29 : (DOperand × (Int × Int)) := x.1.2.2.2.2
  let y30 : Int := (iadd .u64 x.2 (iconv .u64 y29.2.2))
  let y31 : (List Int) := [y30]
  .ret y31))) (
  .need ((0 : Nat) < 1) <|
  .need (((0 : Nat) + 1 : Nat) ≤ 1) <|
  let y32 : (DOperand × (Int × Int)) := x.1.2.2.2.2
  let y33 : Int := (iadd .u64 x.2 (iconv .u64 y32.2.2))
  let y34 : DOperand := y32.1
  let y35 : Int := (iadd .u64 y33 (iconv .u64 y34.2.2.2.2.2.2.2))
  let y36 : (List Int) := [y35]
  .ret y36))) (
  let y37 : (DOperand × (Int × Int)) := x.1.2.2.2.2
  let y38 : DOperand := y37.1
  let y39 : Bool := (ine y38.1 3)
  .ite y39 (
  .ret ([] : List Int)) (
  .ite y1 (
  let y40 : Bool := (ieq y0 26)
  .ite y40 (
  .need ((0 : Nat) < 1) <|
  .need (((0 : Nat) + 1 : Nat) ≤ 1) <|
  let y41 : Int := (iadd .u64 x.2 (iconv .u64 y37.2.2))
  let y42 : Int := (iadd .u64 y41 (iconv .u64 y38.2.2.2.2.2.2.2))
  let y43 : (List Int) := [y42]
  .ret y43) (
  let y44 : Bool := (ieq y0 29)
  .ite y44 (
  .need ((0 : Nat) < 2) <|
  .need ((1 : Nat) < 2) <|
  .need (((0 : Nat) + 2 : Nat) ≤ 2) <|
  let y45 : Int := (iadd .u64 x.2 (iconv .u64 y37.2.2))
  let y46 : Int := (iadd .u64 y45 (iconv .u64 y38.2.2.2.2.2.2.2))
  let y47 : (List Int) := [y45, y46]
  .ret y47) (
  .need ((0 : Nat) < 1) <|
  .need (((0 : Nat) + 1 : Nat) ≤ 1) <|
  let y48 : Int := (iadd .u64 x.2 (iconv .u64 y37.2.2))
  let y49 : (List Int) := [y48]
  .ret y49))) (
  .need ((0 : Nat) < 1) <|
  .need (((0 : Nat) + 1 : Nat) ≤ 1) <|
  let y50 : Int := (iadd .u64 x.2 (iconv .u64 y37.2.2))
  let y51 : Int := (iadd .u64 y50 (iconv .u64 y38.2.2.2.2.2.2.2))
  let y52 : (List Int) := [y51]
  .ret y52))))
noncomputable def fn14 (x : (DInsn × Int)) : (List Int) := (tree14 x).val
def pre14 (x : (DInsn × Int)) : Prop := (tree14 x).ok
noncomputable def spec14 : Spec := { dom := (.st CInsn (.st1 (.int .u64))), cod := (.slice (.int .u64)), n := 1, pre := pre14, f := fn14 }
noncomputable def need14 : FuncId → Option Spec
  | _ => none
theorem need14_ok : ∀ f sp, need14 f = some sp → SpecOk env0 f sp := by
  intro f sp h
  unfold need14 at h
  split at h
  · cases h
theorem run14 (W : Cfg) (Q : (List Int) → Prop) (x : (DInsn × Int)) : run (env need14 (fun _ _ => none)) (fun _ _ _ => none) (finS spec14 Q) W 100000 (startFr 14 Tryd.f14 (bodyOf Tryd.f14) (argsOf (.st CInsn (.st1 (.int .u64))) x)) [] [] = (tree14 x).wp Q := by kernel_rfl
theorem ok14 : SpecOk env0 14 spec14 := SpecOk.env rfl (fun _ _ h => h) (spec_of_tree (E := (env need14 (fun _ _ => none))) (sp := spec14) (valid _ _) (fun f sp h => SpecOk.env rfl (fun _ _ h => h) (need14_ok f sp h)) (fn := Tryd.f14) (c := (bodyOf Tryd.f14)) (by kernel_rfl) (by kernel_rfl) tree14 run14 (fun _ h => Tr.gives_val h))

/-! ### sundial/sundiallaw11.wakes -/
noncomputable def tree6 (_x : Unit) : Tr Bool :=
  .need (pre13 0) <|
  .need (pre13 0) <|
  let y0 : (Int × (Int × (Int × (DOperand × (DOperand × (Int × Int)))))) := (9, (0, (8, ((fn13 0), ((fn13 0), (0, 3))))))
  .need (pre7 y0) <|
  .need (pre13 3) <|
  let y1 : (Int × (Int × (Int × (DOperand × ((Int × (Int × (Int × (Int × (Int × (Int × (Bool × Int))))))) × (Int × Int)))))) := (24, (0, (8, ((fn13 3), ((0, (0, (0, (0, (0, (0, (false, 0))))))), (0, 1))))))
  .need (pre7 y1) <|
  let y2 : ((Int × (Int × (Int × (DOperand × (DOperand × (Int × Int)))))) × Int) := (y0, 7)
  .need (pre14 y2) <|
  .need (pre9 y0) <|
  .ite ((fn9 y0) == true) (
  let y3 : DFacts := (fn7 y0)
  .ite ((ieq (y3.1.length : Int) 0) == true) (
  let y4 : ((List Int) × ((List Int) × (Int × (Int × (Int × (Int × Bool)))))) := y3.2
  let y5 : (List Int) := y4.1
  .ite ((ieq (y5.length : Int) 1) == true) (
  .need ((0 : Int) ≤ 0) <|
  .need (0 < (y5.length : Int)) <|
  .ite ((ieq (rdc (.int .i64) y5 0) 0) == true) (
  .ite ((ieq y4.2.2.2.1 31) == true) (
  let y6 : DFacts := (fn7 y1)
  .ite ((ieq (y6.1.length : Int) 2) == true) (
  let y7 : (Int × Bool) := y6.2.2.2.2.2.2
  .ite ((ieq y7.1 8) == true) (
  .ite ((!y7.2) == true) (
  let y8 : (List Int) := (fn14 y2)
  .ite ((ieq (y8.length : Int) 1) == true) (
  .need ((0 : Int) ≤ 0) <|
  .need (0 < (y8.length : Int)) <|
  .ite ((ieq (rdc (.int .u64) y8 0) 10) == true) (
  .need (pre10 4) <|
  .ret (ieq (fn10 4) 2)) (
  .ret false)) (
  .ret false)) (
  .ret false)) (
  .ret false)) (
  .ret false)) (
  .ret false)) (
  .ret false)) (
  .ret false)) (
  .ret false)) (
  .ret false)
noncomputable def fn6 (x : Unit) : Bool := (tree6 x).val
def pre6 (x : Unit) : Prop := (tree6 x).ok
noncomputable def spec6 : Spec := { dom := .unit, cod := .bool, n := 1, pre := pre6, f := fn6 }
noncomputable def need6 : FuncId → Option Spec
  | 7 => some spec7
  | 9 => some spec9
  | 10 => some spec10
  | 13 => some spec13
  | 14 => some spec14
  | _ => none
theorem need6_ok : ∀ f sp, need6 f = some sp → SpecOk env0 f sp := by
  intro f sp h
  unfold need6 at h
  split at h
  · cases h; exact ok7
  · cases h; exact ok9
  · cases h; exact ok10
  · cases h; exact ok13
  · cases h; exact ok14
  · cases h
theorem run6 (W : Cfg) (Q : Bool → Prop) (x : Unit) : run (env need6 (fun _ _ => none)) (fun _ _ _ => none) (finS spec6 Q) W 100000 (startFr 6 Tryd.f6 (bodyOf Tryd.f6) (argsOf .unit x)) [] [] = (tree6 x).wp Q := by kernel_rfl
theorem ok6 : SpecOk env0 6 spec6 := SpecOk.env rfl (fun _ _ h => h) (spec_of_tree (E := (env need6 (fun _ _ => none))) (sp := spec6) (valid _ _) (fun f sp h => SpecOk.env rfl (fun _ _ h => h) (need6_ok f sp h)) (fn := Tryd.f6) (c := (bodyOf Tryd.f6)) (by kernel_rfl) (by kernel_rfl) tree6 run6 (fun _ h => Tr.gives_val h))

/-! ### sundial/sundiallaw11.has -/
/-! ### sundial/sundiallaw11.FactsStack -/
/-! ### sundial/sundiallaw11.holds -/
noncomputable def tree11 (x : (DFlags × Int)) : Tr Bool :=
  let y0 : Bool := x.1.1
  .ite (y0 == false) (
  let y1 : (Bool × (Bool × (Bool × Bool))) := x.1.2
  let y2 : Bool := y1.1
  let y3 : Bool := (y2 == false)
  .ite y3 (
  .need ((0 : Nat) < 8) <|
  .need ((1 : Nat) < 8) <|
  .need ((2 : Nat) < 8) <|
  .need ((3 : Nat) < 8) <|
  .need ((4 : Nat) < 8) <|
  .need ((5 : Nat) < 8) <|
  .need ((6 : Nat) < 8) <|
  .need ((7 : Nat) < 8) <|
  .need ((16 : Int) ≠ 0) <|
  .need ((2 : Int) ≠ 0) <|
  let y4 : Int := (iquo .u8 (irem .u8 x.2 16) 2)
  .need ((0 : Int) ≤ y4) <|
  .need ((y4 : Int) < 8) <|
  let y5 : Nat := (y4).toNat
  .need ((y5 : Nat) < 8) <|
  .need ((2 : Int) ≠ 0) <|
  let y6 : (Bool × (Bool × Bool)) := y1.2
  let y7 : (Bool × Bool) := y6.2
  let y8 : Bool := y7.1
  let y9 : Bool := y6.1
  let y10 : Bool := y7.2
  let y11 : Bool := (!(y9 == y8))
  let y12 : Bool := (ieq (irem .u8 x.2 2) 1)
  .ret (!((rdc .bool [y8, y0, y2, y2, y9, y10, y11, y11] y5) == y12))) (
  .need ((0 : Nat) < 8) <|
  .need ((1 : Nat) < 8) <|
  .need ((2 : Nat) < 8) <|
  .need ((3 : Nat) < 8) <|
  .need ((4 : Nat) < 8) <|
  .need ((5 : Nat) < 8) <|
  .need ((6 : Nat) < 8) <|
  .need ((7 : Nat) < 8) <|
  .need ((16 : Int) ≠ 0) <|
  .need ((2 : Int) ≠ 0) <|
  let y13 : Int := (iquo .u8 (irem .u8 x.2 16) 2)
  .need ((0 : Int) ≤ y13) <|
  .need ((y13 : Int) < 8) <|
  let y14 : Nat := (y13).toNat
  .need ((y14 : Nat) < 8) <|
  .need ((2 : Int) ≠ 0) <|
  let y15 : (Bool × (Bool × Bool)) := y1.2
  let y16 : (Bool × Bool) := y15.2
  let y17 : Bool := y16.1
  let y18 : Bool := y15.1
  let y19 : Bool := y16.2
  let y20 : Bool := (!(y18 == y17))
  let y21 : Bool := (ieq (irem .u8 x.2 2) 1)
  .ret (!((rdc .bool [y17, y0, y2, y2, y18, y19, y20, true] y14) == y21)))) (
  let y22 : (Bool × (Bool × (Bool × Bool))) := x.1.2
  let y23 : Bool := y22.1
  let y24 : Bool := (y23 == false)
  .ite y24 (
  .need ((0 : Nat) < 8) <|
  .need ((1 : Nat) < 8) <|
  .need ((2 : Nat) < 8) <|
  .need ((3 : Nat) < 8) <|
  .need ((4 : Nat) < 8) <|
  .need ((5 : Nat) < 8) <|
  .need ((6 : Nat) < 8) <|
  .need ((7 : Nat) < 8) <|
  .need ((16 : Int) ≠ 0) <|
  .need ((2 : Int) ≠ 0) <|
  let y25 : Int := (iquo .u8 (irem .u8 x.2 16) 2)
  .need ((0 : Int) ≤ y25) <|
  .need ((y25 : Int) < 8) <|
  let y26 : Nat := (y25).toNat
  .need ((y26 : Nat) < 8) <|
  .need ((2 : Int) ≠ 0) <|
  let y27 : (Bool × (Bool × Bool)) := y22.2
  let y28 : (Bool × Bool) := y27.2
  let y29 : Bool := y28.1
  let y30 : Bool := y27.1
  let y31 : Bool := y28.2
  let y32 : Bool := (!(y30 == y29))
  let y33 : Bool := (ieq (irem .u8 x.2 2) 1)
  .ret (!((rdc .bool [y29, y0, y23, true, y30, y31, y32, y32] y26) == y33))) (
  .need ((0 : Nat) < 8) <|
  .need ((1 : Nat) < 8) <|
  .need ((2 : Nat) < 8) <|
  .need ((3 : Nat) < 8) <|
  .need ((4 : Nat) < 8) <|
  .need ((5 : Nat) < 8) <|
  .need ((6 : Nat) < 8) <|
  .need ((7 : Nat) < 8) <|
  .need ((16 : Int) ≠ 0) <|
  .need ((2 : Int) ≠ 0) <|
  let y34 : Int := (iquo .u8 (irem .u8 x.2 16) 2)
  .need ((0 : Int) ≤ y34) <|
  .need ((y34 : Int) < 8) <|
  let y35 : Nat := (y34).toNat
  .need ((y35 : Nat) < 8) <|
  .need ((2 : Int) ≠ 0) <|
  let y36 : (Bool × (Bool × Bool)) := y22.2
  let y37 : (Bool × Bool) := y36.2
  let y38 : Bool := y37.1
  let y39 : Bool := y36.1
  let y40 : Bool := y37.2
  let y41 : Bool := (!(y39 == y38))
  let y42 : Bool := (ieq (irem .u8 x.2 2) 1)
  .ret (!((rdc .bool [y38, y0, y23, true, y39, y40, y41, true] y35) == y42))))
noncomputable def fn11 (x : (DFlags × Int)) : Bool := (tree11 x).val
def pre11 (x : (DFlags × Int)) : Prop := (tree11 x).ok
noncomputable def spec11 : Spec := { dom := (.st CFlags (.st1 (.int .u8))), cod := .bool, n := 1, pre := pre11, f := fn11 }
noncomputable def need11 : FuncId → Option Spec
  | _ => none
theorem need11_ok : ∀ f sp, need11 f = some sp → SpecOk env0 f sp := by
  intro f sp h
  unfold need11 at h
  split at h
  · cases h
theorem run11 (W : Cfg) (Q : Bool → Prop) (x : (DFlags × Int)) : run (env need11 (fun _ _ => none)) (fun _ _ _ => none) (finS spec11 Q) W 100000 (startFr 11 Tryd.f11 (bodyOf Tryd.f11) (argsOf (.st CFlags (.st1 (.int .u8))) x)) [] [] = (tree11 x).wp Q := by kernel_rfl
theorem ok11 : SpecOk env0 11 spec11 := SpecOk.env rfl (fun _ _ h => h) (spec_of_tree (E := (env need11 (fun _ _ => none))) (sp := spec11) (valid _ _) (fun f sp h => SpecOk.env rfl (fun _ _ h => h) (need11_ok f sp h)) (fn := Tryd.f11) (c := (bodyOf Tryd.f11)) (by kernel_rfl) (by kernel_rfl) tree11 run11 (fun _ h => Tr.gives_val h))

end Go.Eng.RU
end
section
/- What the law calls where it has nothing to say. -/
namespace Go.Eng.RU
open Go.Eng
set_option maxRecDepth 100000
set_option linter.unusedSectionVars false
set_option linter.unusedSimpArgs false
set_option linter.unusedVariables false
/-! ### Conditions' flags -/
noncomputable def idxB (n : Nat) : Bool := ile 0 (iquo .u8 (irem .u8 n 16) 2) && ilt (iquo .u8 (irem .u8 n 16) 2) 8 && ieq (fn10 (ixor .u8 n 1)) (fn10 n) && ile 0 (ixor .u8 n 1) && ilt (ixor .u8 n 1) 256 && !(ieq (fn10 n) 0) && !(ilt 31 (fn10 n))
theorem idx_all : (List.range 256).all idxB = true := by kernel_rfl
theorem idx_at {c : Int} (h0 : 0 ≤ c) (h1 : c < 256) : 0 ≤ iquo .u8 (irem .u8 c 16) 2 ∧ iquo .u8 (irem .u8 c 16) 2 < 8 ∧ fn10 (ixor .u8 c 1) = fn10 c ∧ 0 ≤ ixor .u8 c 1 ∧ ixor .u8 c 1 < 256 ∧ ieq (fn10 c) 0 = false ∧ ilt 31 (fn10 c) = false := by
  obtain ⟨n, rfl⟩ := Int.eq_ofNat_of_zero_le h0
  have := List.all_eq_true.1 idx_all n (List.mem_range.2 (by omega))
  unfold idxB at this
  simp only [Bool.and_eq_true, Bool.not_eq_true', ile_iff, ilt_iff, ieq_iff] at this
  obtain ⟨⟨⟨⟨⟨⟨a1, a2⟩, a3⟩, a4⟩, a5⟩, a6⟩, a7⟩ := this
  exact ⟨a1, a2, a3, a4, a5, a6, a7⟩
theorem pre10_ok {c : Int} (h0 : 0 ≤ c) (h1 : c < 256) : pre10 c := by
  obtain ⟨a1, a2, _⟩ := idx_at h0 h1
  unfold pre10 tree10
  exact ⟨by decide, by decide, a1, a2, by omega, trivial⟩
/-! ### Targets, ends -/
theorem pre14_ok (x) : pre14 x := by
  unfold pre14 tree14
  simp only [ok_ite, ok_need, ok_ret]
  simp
theorem ends24 : fn17 ([26, 27, 28, 29], 24) = false := by
  have h : Ends (step56 ([26, 27, 28, 29], 24)) (-1) (tree56 ([26, 27, 28, 29], 24)) := by
    unfold tree56
    simp only [ends_jump]
    simp only [step56]
    refine .yes _ _ (.need _ _ (by decide) (.need _ _ (by decide) (.no _ _ (.jump _ ?_))))
    simp only [step56]
    refine .yes _ _ (.need _ _ (by decide) (.need _ _ (by decide) (.no _ _ (.jump _ ?_))))
    simp only [step56]
    refine .yes _ _ (.need _ _ (by decide) (.need _ _ (by decide) (.no _ _ (.jump _ ?_))))
    simp only [step56]
    refine .yes _ _ (.need _ _ (by decide) (.need _ _ (by decide) (.no _ _ (.jump _ ?_))))
    simp only [step56]
    exact .no _ _ .ret
  have e : fn56 ([26, 27, 28, 29], 24) = -1 := endVal_eq h
  unfold fn17 tree17
  simp only [val_need, val_ret, e]
  rfl
/-! ### A push -/
variable {x : DInsn}
theorem c13w (hk : ieq x.2.2.2.1.1 1 = true) : Fin x (step7h13 x) (fun R W A i o l s => R = [x.2.2.2.1.2.1, 4] ∧ s = 8) := by
  have u1 := ulen x.2.2.2.1
  have u2 := ulen x.2.2.2.2.1
  simp only [step7h13, fn28_ok, beq_true, beq_false, uses_um, hk]
  repeat' (first
    | exact fin_ff (by assumption) | exact fin_tf (by assumption)
    | refine fin_need (by first | exact True.intro | exact pre28_ok _ | exact pre9_ok _ | exact pre40_ok _ | exact pre64_ok _ | assumption | omega | (simp only [List.length_append, List.length_cons, List.length_nil] <;> omega)) ?_
    | refine fin_ite (fun h => ?_) (fun h => ?_)
    | apply fin_23 | apply fin_24 | apply fin_25 | apply fin_26 | apply fin_27 | apply fin_28 | apply fin_29 | apply fin_30)
  all_goals first
    | omega | rfl | (simp only [List.length_append, List.length_cons, List.length_nil] <;> omega) | skip
  all_goals exact ⟨rfl, rfl⟩
theorem push_fin (hd : x.1 = 24) (hk : ieq x.2.2.2.1.1 1 = true) : Fin x (tree7 x) (fun R W A i o l s => R = [x.2.2.2.1.2.1, 4] ∧ s = 8) := by
  have hh := c13w hk
  obtain ⟨d, r⟩ := x
  have hd : d = 24 := hd
  subst hd
  unfold tree7
  refine fin_need pre15_ok ?_
  iterate 24 refine fin_ite (fun h => absurd (show (false : Bool) = true from h) (by decide)) (fun _ => ?_)
  exact fin_ite (fun _ => fin_jump hh) (fun h => absurd (show (true : Bool) = false from h) (by decide))
theorem rise_two {a b : Int} (h : a ≠ b) : (rise [a, b]).length = 2 := by
  have h1 := rise_len [a, b]
  have h2 : a ∈ rise [a, b] := mem_rise.2 (by simp)
  have h3 : b ∈ rise [a, b] := mem_rise.2 (by simp)
  match hr : rise [a, b] with
  | [] => rw [hr] at h2; cases h2
  | [c] =>
    rw [hr] at h2 h3
    have := (List.mem_singleton.1 h2).trans (List.mem_singleton.1 h3).symm
    exact absurd this h
  | [c, d] => rfl
  | c :: d :: e :: r => rw [hr] at h1; simp at h1
theorem wakes_ok : pre6 () ∧ fn6 () = true := by
  have p0 : pre10 0 := pre10_ok (by decide) (by decide)
  have p4 : pre10 4 := pre10_ok (by decide) (by decide)
  have f4 : fn10 4 = 2 := by kernel_rfl
  obtain ⟨q1, R, W, A, i, o, l, s, e1, _, g1⟩ := of_ok (9, (0, (8, ((fn13 0), ((fn13 0), (0, 3)))))) p0
  obtain ⟨q2, R', W', A', i', o', l', s', e2, _, g2⟩ := of_ok (24, (0, (8, ((fn13 3), ((0, (0, (0, (0, (0, (0, (false, 0))))))), (0, 1)))))) p0
  have hn : fn9 (9, (0, (8, ((fn13 0), ((fn13 0), (0, 3)))))) = true := nought_iff.2 ⟨.inl rfl, rfl, rfl, rfl⟩
  obtain ⟨hR, hW, _⟩ := g1.nought hn
  have ho := g1.xor hn rfl
  have hA : (fn13 0).2.1 = 0 := rfl
  obtain ⟨R2, W2, A2, i2, o2, l2, s2, e3, _, h3, h4⟩ := push_fin (x := (24, (0, (8, ((fn13 3), ((0, (0, (0, (0, (0, (0, (false, 0))))))), (0, 1))))))) rfl rfl
  have e3 : fn7 (24, (0, (8, ((fn13 3), ((0, (0, (0, (0, (0, (0, (false, 0))))))), (0, 1)))))) = _ := endVal_eq e3
  have t14 : fn14 ((9, (0, (8, ((fn13 0), ((fn13 0), (0, 3)))))), 7) = [10] := by kernel_rfl
  have hA3 : (fn13 3).2.1 = 3 := rfl
  have v1 : (fn7 (9, (0, (8, ((fn13 0), ((fn13 0), (0, 3))))))).1 = [] := by rw [e1]; simp only [fin7, hR, rise_nil]
  have v2 : (fn7 (9, (0, (8, ((fn13 0), ((fn13 0), (0, 3))))))).2.1 = [0] := by rw [e1]; simp only [fin7, hW, rise_one, hA]
  have v3 : (fn7 (9, (0, (8, ((fn13 0), ((fn13 0), (0, 3))))))).2.2.2.2.1 = 31 := by rw [e1]; exact ho
  have v4 : (fn7 (24, (0, (8, ((fn13 3), ((0, (0, (0, (0, (0, (0, (false, 0))))))), (0, 1))))))).1.length = 2 := by rw [e3]; simp only [fin7, h3, hA3]; exact rise_two (by decide)
  have v5 : (fn7 (24, (0, (8, ((fn13 3), ((0, (0, (0, (0, (0, (0, (false, 0))))))), (0, 1))))))).2.2.2.2.2.2.1 = 8 := by rw [e3]; exact h4
  have v6 : (fn7 (24, (0, (8, ((fn13 3), ((0, (0, (0, (0, (0, (0, (false, 0))))))), (0, 1))))))).2.2.2.2.2.2.2 = false := by rw [e3]; exact ends24
  constructor
  · unfold pre6 tree6
    simp only [ok_ite, ok_need, ok_ret, pre13_ok, pre14_ok, pre9_ok, q1, q2, p4, v1, v2, v3, v4, v5, v6, t14]
    simp
  · unfold fn6 tree6
    simp only [val_ite, val_need, val_ret, v1, v2, v3, v4, v5, v6, t14, hn, f4]
    rfl
end Go.Eng.RU
end
section
/- Functions of this program, written out. -/
namespace Go.Eng.RU
open Go.Proofs Go.Eng
set_option maxRecDepth 100000

/-! ### sundial/sundiallaw11.FactsCond -/
inductive J4 where
  | h0 (v1 : Int) (v8 : Bool) (v13 : (List Bool))
  | h1 (v1 : Int) (v8 : Bool) (v9 : Bool) (v13 : (List Bool))
  | h2 (v1 : Int) (v8 : Bool) (v9 : Bool) (v10 : Bool) (v13 : (List Bool))
  | h3 (v1 : Int) (v8 : Bool) (v9 : Bool) (v10 : Bool) (v11 : Bool) (v13 : (List Bool))
  | h4 (v1 : Int) (v8 : DFlags) (v13 : (List Bool))
noncomputable def tree4 (x : (DFlags × (DFlags × Int))) : Tr (J4 ⊕ Bool) :=
  let y0 : Int := x.2.2
  .need (pre10 y0) <|
  .need ((0 : Nat) < 5) <|
  .need ((1 : Nat) < 5) <|
  .need ((2 : Nat) < 5) <|
  .need ((3 : Nat) < 5) <|
  .need ((4 : Nat) < 5) <|
  .need ((0 : Int) ≤ 0) <|
  let y1 : Int := (fn10 y0)
  .ite (ieq (iand .u8 (ishr .u8 y1 0) 1) 1) (
  .need ((0 : Int) ≤ 0) <|
  .need ((0 : Int) < 5) <|
  .need ((0 : Int) ≤ 0) <|
  .need ((0 : Int) < 5) <|
  .need ((0 : Nat) < 5) <|
  let y2 : Bool := x.1.1
  let y3 : (Bool × (Bool × (Bool × Bool))) := x.1.2
  let y4 : (Bool × (Bool × Bool)) := y3.2
  let y5 : (Bool × Bool) := y4.2
  let y6 : (List Bool) := [y2, y3.1, y4.1, y5.1, y5.2]
  .ret (.inl (.h0 y1 y2 y6))) (
  let y7 : Bool := x.1.1
  let y8 : (Bool × (Bool × (Bool × Bool))) := x.1.2
  let y9 : (Bool × (Bool × Bool)) := y8.2
  let y10 : (Bool × Bool) := y9.2
  let y11 : (List Bool) := [y7, y8.1, y9.1, y10.1, y10.2]
  .ret (.inl (.h0 y1 x.2.1.1 y11)))
noncomputable def step4 (x : (DFlags × (DFlags × Int))) : J4 → Tr (J4 ⊕ Bool)
  | .h0 v1 v8 v13 =>
  .need ((0 : Int) ≤ 1) <|
  .ite (ieq (iand .u8 (ishr .u8 v1 1) 1) 1) (
  .need ((0 : Int) ≤ 1) <|
  .need ((1 : Int) < 5) <|
  .need ((0 : Int) ≤ 1) <|
  .need ((1 : Int) < 5) <|
  .need ((1 : Nat) < 5) <|
  .ret (.inl (.h1 v1 v8 (rdc .bool v13 1) v13))) (
  .ret (.inl (.h1 v1 v8 x.2.1.2.1 v13)))
  | .h1 v1 v8 v9 v13 =>
  .need ((0 : Int) ≤ 2) <|
  .ite (ieq (iand .u8 (ishr .u8 v1 2) 1) 1) (
  .need ((0 : Int) ≤ 2) <|
  .need ((2 : Int) < 5) <|
  .need ((0 : Int) ≤ 2) <|
  .need ((2 : Int) < 5) <|
  .need ((2 : Nat) < 5) <|
  .ret (.inl (.h2 v1 v8 v9 (rdc .bool v13 2) v13))) (
  .ret (.inl (.h2 v1 v8 v9 x.2.1.2.2.1 v13)))
  | .h2 v1 v8 v9 v10 v13 =>
  .need ((0 : Int) ≤ 3) <|
  .ite (ieq (iand .u8 (ishr .u8 v1 3) 1) 1) (
  .need ((0 : Int) ≤ 3) <|
  .need ((3 : Int) < 5) <|
  .need ((0 : Int) ≤ 3) <|
  .need ((3 : Int) < 5) <|
  .need ((3 : Nat) < 5) <|
  .ret (.inl (.h3 v1 v8 v9 v10 (rdc .bool v13 3) v13))) (
  .ret (.inl (.h3 v1 v8 v9 v10 x.2.1.2.2.2.1 v13)))
  | .h3 v1 v8 v9 v10 v11 v13 =>
  .need ((0 : Int) ≤ 4) <|
  .ite (ieq (iand .u8 (ishr .u8 v1 4) 1) 1) (
  .need ((0 : Int) ≤ 4) <|
  .need ((4 : Int) < 5) <|
  .need ((0 : Int) ≤ 4) <|
  .need ((4 : Int) < 5) <|
  .need ((4 : Nat) < 5) <|
  .ret (.inl (.h4 v1 (v8, (v9, (v10, (v11, (rdc .bool v13 4))))) v13))) (
  .ret (.inl (.h4 v1 (v8, (v9, (v10, (v11, x.2.1.2.2.2.2)))) v13)))
  | .h4 v1 v8 v13 =>
  let y0 : Int := x.2.2
  let y1 : (DFlags × Int) := (x.1, y0)
  .need (pre11 y1) <|
  let y2 : (DFlags × Int) := (v8, y0)
  .need (pre11 y2) <|
  .ite ((!((fn11 y1) == (fn11 y2))) == false) (
  let y3 : Int := (ixor .u8 y0 1)
  .need (pre10 y3) <|
  .ite ((ine (fn10 y3) v1) == false) (
  .ite ((ieq v1 0) == false) (
  .ite (ilt 31 v1) (
  .ret (.inr false)) (
  .need ((0 : Nat) < 3) <|
  .need ((1 : Nat) < 3) <|
  .need ((2 : Nat) < 3) <|
  .need ((0 : Int) ≤ 0) <|
  .need (0 < (3 : Int)) <|
  .need ((0 : Nat) < 3) <|
  let y4 : (Int × (Int × (Int × (Int × (Int × (Int × (Bool × Int))))))) := (0, (0, (0, (0, (0, (0, (false, 0)))))))
  let y5 : (Int × (Int × ((Int × (Int × (Int × (Int × (Int × (Int × (Bool × Int))))))) × ((Int × (Int × (Int × (Int × (Int × (Int × (Bool × Int))))))) × (Int × Int))))) := (y0, (8, (y4, (y4, (0, 0)))))
  let y6 : (Int × (Int × (Int × ((Int × (Int × (Int × (Int × (Int × (Int × (Bool × Int))))))) × ((Int × (Int × (Int × (Int × (Int × (Int × (Bool × Int))))))) × (Int × Int)))))) := (29, y5)
  .need (pre7 y6) <|
  .ite (ine (fn7 y6).2.2.2.1 v1) (
  .ret (.inr false)) (
  .need ((0 : Int) ≤ 1) <|
  .need (1 < (3 : Int)) <|
  .need ((1 : Nat) < 3) <|
  let y7 : (Int × (Int × (Int × ((Int × (Int × (Int × (Int × (Int × (Int × (Bool × Int))))))) × ((Int × (Int × (Int × (Int × (Int × (Int × (Bool × Int))))))) × (Int × Int)))))) := (30, y5)
  .need (pre7 y7) <|
  .ite (ine (fn7 y7).2.2.2.1 v1) (
  .ret (.inr false)) (
  .need ((0 : Int) ≤ 2) <|
  .need (2 < (3 : Int)) <|
  .need ((2 : Nat) < 3) <|
  let y8 : (Int × (Int × (Int × ((Int × (Int × (Int × (Int × (Int × (Int × (Bool × Int))))))) × ((Int × (Int × (Int × (Int × (Int × (Int × (Bool × Int))))))) × (Int × Int)))))) := (31, y5)
  .need (pre7 y8) <|
  .ite (ine (fn7 y8).2.2.2.1 v1) (
  .ret (.inr false)) (
  .need (pre6 ()) <|
  .ret (.inr (fn6 ()))))))) (
  .ret (.inr false))) (
  .ret (.inr false))) (
  .ret (.inr false))
noncomputable def cRUF5_0 (x : (DFlags × (DFlags × Int))) : AObj := .cell true 34 (.agg [1, 1, 1, 1, 1] [(.bool x.1.1), (.bool x.1.2.1), (.bool x.1.2.2.1), (.bool x.1.2.2.2.1), (.bool x.1.2.2.2.2)])
noncomputable def cRUF5_1 : AObj := .cell true 38 (.agg [1, 1, 1, 1, 1] [(.ptr 1 [.fld 0 0]), (.ptr 1 [.fld 1 1]), (.ptr 1 [.fld 2 2]), (.ptr 1 [.fld 3 3]), (.ptr 1 [.fld 4 4])])
noncomputable def head4 (x : (DFlags × (DFlags × Int))) : J4 → Head
  | .h0 v1 v8 v13 =>
  { fr := { id := 4, kind := .top, T := [.any, .any, (.int .u8 x.2.2), (.ptr 0 []), (.ptr 1 []), .any, .any, (.int .u8 v1), (.ptr 2 []), (.ptr 3 []), (.int .i64 0)] ++ List.replicate 75 .any, items := [.code (subc [1, 1, 1, 1, 0, 1, 0, 0, 1, 1] (bodyOf Tryd.f4)), .lp (subc [1, 1, 1, 1, 0, 1, 0, 0] (bodyOf Tryd.f4)), .blk 0, .code (subc [1, 1, 1, 1, 1] (bodyOf Tryd.f4))], D := [], base := 0 },
    stk := [],
    H := [(cRUF5_0 x), .cell true 34 (.agg [1, 1, 1, 1, 1] [(.bool v8), (.bool x.2.1.2.1), (.bool x.2.1.2.2.1), (.bool x.2.1.2.2.2.1), (.bool x.2.1.2.2.2.2)]), .cell true 36 (.arr 5 .bool v13), cRUF5_1] }
  | .h1 v1 v8 v9 v13 =>
  { fr := { id := 4, kind := .top, T := [.any, .any, (.int .u8 x.2.2), (.ptr 0 []), (.ptr 1 []), .any, .any, (.int .u8 v1), (.ptr 2 []), (.ptr 3 []), (.int .i64 1)] ++ List.replicate 75 .any, items := [.code (subc [1, 1, 1, 1, 0, 1, 0, 0, 1, 1] (bodyOf Tryd.f4)), .lp (subc [1, 1, 1, 1, 0, 1, 0, 0] (bodyOf Tryd.f4)), .blk 0, .code (subc [1, 1, 1, 1, 1] (bodyOf Tryd.f4))], D := [], base := 0 },
    stk := [],
    H := [(cRUF5_0 x), .cell true 34 (.agg [1, 1, 1, 1, 1] [(.bool v8), (.bool v9), (.bool x.2.1.2.2.1), (.bool x.2.1.2.2.2.1), (.bool x.2.1.2.2.2.2)]), .cell true 36 (.arr 5 .bool v13), cRUF5_1] }
  | .h2 v1 v8 v9 v10 v13 =>
  { fr := { id := 4, kind := .top, T := [.any, .any, (.int .u8 x.2.2), (.ptr 0 []), (.ptr 1 []), .any, .any, (.int .u8 v1), (.ptr 2 []), (.ptr 3 []), (.int .i64 2)] ++ List.replicate 75 .any, items := [.code (subc [1, 1, 1, 1, 0, 1, 0, 0, 1, 1] (bodyOf Tryd.f4)), .lp (subc [1, 1, 1, 1, 0, 1, 0, 0] (bodyOf Tryd.f4)), .blk 0, .code (subc [1, 1, 1, 1, 1] (bodyOf Tryd.f4))], D := [], base := 0 },
    stk := [],
    H := [(cRUF5_0 x), .cell true 34 (.agg [1, 1, 1, 1, 1] [(.bool v8), (.bool v9), (.bool v10), (.bool x.2.1.2.2.2.1), (.bool x.2.1.2.2.2.2)]), .cell true 36 (.arr 5 .bool v13), cRUF5_1] }
  | .h3 v1 v8 v9 v10 v11 v13 =>
  { fr := { id := 4, kind := .top, T := [.any, .any, (.int .u8 x.2.2), (.ptr 0 []), (.ptr 1 []), .any, .any, (.int .u8 v1), (.ptr 2 []), (.ptr 3 []), (.int .i64 3)] ++ List.replicate 75 .any, items := [.code (subc [1, 1, 1, 1, 0, 1, 0, 0, 1, 1] (bodyOf Tryd.f4)), .lp (subc [1, 1, 1, 1, 0, 1, 0, 0] (bodyOf Tryd.f4)), .blk 0, .code (subc [1, 1, 1, 1, 1] (bodyOf Tryd.f4))], D := [], base := 0 },
    stk := [],
    H := [(cRUF5_0 x), .cell true 34 (.agg [1, 1, 1, 1, 1] [(.bool v8), (.bool v9), (.bool v10), (.bool v11), (.bool x.2.1.2.2.2.2)]), .cell true 36 (.arr 5 .bool v13), cRUF5_1] }
  | .h4 v1 v8 v13 =>
  { fr := { id := 4, kind := .top, T := [.any, .any, (.int .u8 x.2.2), (.ptr 0 []), (.ptr 1 []), .any, .any, (.int .u8 v1), (.ptr 2 []), (.ptr 3 []), (.int .i64 4)] ++ List.replicate 75 .any, items := [.code (subc [1, 1, 1, 1, 0, 1, 0, 0, 1, 1] (bodyOf Tryd.f4)), .lp (subc [1, 1, 1, 1, 0, 1, 0, 0] (bodyOf Tryd.f4)), .blk 0, .code (subc [1, 1, 1, 1, 1] (bodyOf Tryd.f4))], D := [], base := 0 },
    stk := [],
    H := [(cRUF5_0 x), .cell true 34 (.agg [1, 1, 1, 1, 1] [(.bool v8.1), (.bool v8.2.1), (.bool v8.2.2.1), (.bool v8.2.2.2.1), (.bool v8.2.2.2.2)]), .cell true 36 (.arr 5 .bool v13), cRUF5_1] }
noncomputable def stop4 : FuncId → Nat → Nat → Option Cut
  | 4, 13, 0 => some { tmps := [2, 3, 4, 7, 8, 9, 10], loops := [], dead := [], stk := [] }
  | _, _, _ => none
noncomputable def fn4 (x : (DFlags × (DFlags × Int))) : Bool := endVal (TC.dflt .bool) (step4 x) (tree4 x)
def pre4 (x : (DFlags × (DFlags × Int))) : Prop := ∃ r, Ends (step4 x) r (tree4 x)
noncomputable def spec4 : Spec := { dom := (.st CFlags (.st CFlags (.st1 (.int .u8)))), cod := .bool, n := 1, pre := pre4, f := fn4 }
noncomputable def need4 : FuncId → Option Spec
  | 6 => some spec6
  | 7 => some spec7
  | 10 => some spec10
  | 11 => some spec11
  | _ => none
theorem need4_ok : ∀ f sp, need4 f = some sp → SpecOk env0 f sp := by
  intro f sp h
  unfold need4 at h
  split at h
  · cases h; exact ok6
  · cases h; exact ok7
  · cases h; exact ok10
  · cases h; exact ok11
  · cases h
theorem run4 (W : Cfg) (Q : Bool → Prop) (x : (DFlags × (DFlags × Int))) : run (env need4 (fun _ _ => none)) stop4 (finS spec4 Q) W 100000 (startFr 4 Tryd.f4 (bodyOf Tryd.f4) (argsOf (.st CFlags (.st CFlags (.st1 (.int .u8)))) x)) [] [] = (tree4 x).wp (kont W Q (head4 x)) := by kernel_rfl
theorem run4h0 (W : Cfg) (Q : Bool → Prop) (x : (DFlags × (DFlags × Int))) (v1 : Int) (v8 : Bool) (v13 : (List Bool)) : run (env need4 (fun _ _ => none)) stop4 (finS spec4 Q) W 100000 (head4 x (.h0 v1 v8 v13)).fr.enter (head4 x (.h0 v1 v8 v13)).stk (head4 x (.h0 v1 v8 v13)).H = (step4 x (.h0 v1 v8 v13)).wp (kont W Q (head4 x)) := by kernel_rfl
theorem run4h1 (W : Cfg) (Q : Bool → Prop) (x : (DFlags × (DFlags × Int))) (v1 : Int) (v8 : Bool) (v9 : Bool) (v13 : (List Bool)) : run (env need4 (fun _ _ => none)) stop4 (finS spec4 Q) W 100000 (head4 x (.h1 v1 v8 v9 v13)).fr.enter (head4 x (.h1 v1 v8 v9 v13)).stk (head4 x (.h1 v1 v8 v9 v13)).H = (step4 x (.h1 v1 v8 v9 v13)).wp (kont W Q (head4 x)) := by kernel_rfl
theorem run4h2 (W : Cfg) (Q : Bool → Prop) (x : (DFlags × (DFlags × Int))) (v1 : Int) (v8 : Bool) (v9 : Bool) (v10 : Bool) (v13 : (List Bool)) : run (env need4 (fun _ _ => none)) stop4 (finS spec4 Q) W 100000 (head4 x (.h2 v1 v8 v9 v10 v13)).fr.enter (head4 x (.h2 v1 v8 v9 v10 v13)).stk (head4 x (.h2 v1 v8 v9 v10 v13)).H = (step4 x (.h2 v1 v8 v9 v10 v13)).wp (kont W Q (head4 x)) := by kernel_rfl
theorem run4h3 (W : Cfg) (Q : Bool → Prop) (x : (DFlags × (DFlags × Int))) (v1 : Int) (v8 : Bool) (v9 : Bool) (v10 : Bool) (v11 : Bool) (v13 : (List Bool)) : run (env need4 (fun _ _ => none)) stop4 (finS spec4 Q) W 100000 (head4 x (.h3 v1 v8 v9 v10 v11 v13)).fr.enter (head4 x (.h3 v1 v8 v9 v10 v11 v13)).stk (head4 x (.h3 v1 v8 v9 v10 v11 v13)).H = (step4 x (.h3 v1 v8 v9 v10 v11 v13)).wp (kont W Q (head4 x)) := by kernel_rfl
theorem run4h4 (W : Cfg) (Q : Bool → Prop) (x : (DFlags × (DFlags × Int))) (v1 : Int) (v8 : DFlags) (v13 : (List Bool)) : run (env need4 (fun _ _ => none)) stop4 (finS spec4 Q) W 100000 (head4 x (.h4 v1 v8 v13)).fr.enter (head4 x (.h4 v1 v8 v13)).stk (head4 x (.h4 v1 v8 v13)).H = (step4 x (.h4 v1 v8 v13)).wp (kont W Q (head4 x)) := by kernel_rfl
theorem runs4 (W : Cfg) (Q : Bool → Prop) (x : (DFlags × (DFlags × Int))) : ∀ j : J4, run (env need4 (fun _ _ => none)) stop4 (finS spec4 Q) W 100000 (head4 x j).fr.enter (head4 x j).stk (head4 x j).H = (step4 x j).wp (kont W Q (head4 x))
  | .h0 v1 v8 v13 => run4h0 W Q x v1 v8 v13
  | .h1 v1 v8 v9 v13 => run4h1 W Q x v1 v8 v9 v13
  | .h2 v1 v8 v9 v10 v13 => run4h2 W Q x v1 v8 v9 v10 v13
  | .h3 v1 v8 v9 v10 v11 v13 => run4h3 W Q x v1 v8 v9 v10 v11 v13
  | .h4 v1 v8 v13 => run4h4 W Q x v1 v8 v13
theorem ok4 : SpecOk env0 4 spec4 := SpecOk.env rfl (fun _ _ h => h) (spec_of_trees (E := (env need4 (fun _ _ => none))) (sp := spec4) (valid _ _) (fun f sp h => SpecOk.env rfl (fun _ _ h => h) (need4_ok f sp h)) (fn := Tryd.f4) (c := (bodyOf Tryd.f4)) (by kernel_rfl) (by kernel_rfl) tree4 step4 head4 run4 runs4 (fun _ h => endVal_ends h))

end Go.Eng.RU
end
section
/- FactsCond: plain. -/
namespace Go.Eng.RU
open Go.Eng
set_option maxRecDepth 100000
set_option linter.unusedSectionVars false
set_option linter.unusedSimpArgs false
set_option linter.unusedVariables false
def kOf (cc : Int) : Int := iquo .u8 (irem .u8 cc 16) 2
theorem fn10_k (cc : Int) : fn10 cc = rdc (.int .u8) [8, 1, 2, 3, 4, 16, 12, 14] (kOf cc).toNat := rfl
theorem pre11_ok (f : DFlags) {cc : Int} (h0 : 0 ≤ kOf cc) (h1 : kOf cc < 8) : pre11 (f, cc) := by
  have h2 : (kOf cc).toNat < 8 := by omega
  unfold kOf at *
  unfold pre11 tree11
  simp only [ok_ite, ok_need, ok_ret, h0, h1, h2]
  simp
def hb (f : DFlags) : List Bool := [f.2.2.2.1, f.1, f.2.1, f.1 || f.2.1, f.2.2.1, f.2.2.2.2, !(f.2.2.1 == f.2.2.2.1), f.2.1 || !(f.2.2.1 == f.2.2.2.1)]
theorem fn11_k (f : DFlags) (cc : Int) : fn11 (f, cc) = !(rdc .bool (hb f) (kOf cc).toNat == ieq (irem .u8 cc 2) 1) := by
  obtain ⟨c, z, s, o, p⟩ := f
  unfold fn11 tree11 hb kOf
  simp only [val_ite, val_need, val_ret]
  cases c <;> cases z <;> simp
variable {x : DFlags × (DFlags × Int)}
abbrev Dc (x : DFlags × (DFlags × Int)) (t : Tr (J4 ⊕ Bool)) : Prop := Ends (step4 x) true t
variable {t e : Tr (J4 ⊕ Bool)}
theorem dc_need {p : Prop} (h : p) (k : Dc x t) : Dc x (.need p t) := .need _ _ h k
theorem dc_yes {b : Bool} (h : b = true) (k : Dc x t) : Dc x (.ite b t e) := by subst h; exact .yes _ _ k
theorem dc_no {b : Bool} (h : b = false) (k : Dc x e) : Dc x (.ite b t e) := by subst h; exact .no _ _ k
/-- The flags of one, where the mask has them, and of the other, where it has not. -/
def bitOf (m i : Int) : Bool := ieq (iand .u8 (ishr .u8 m i) 1) 1
theorem dc_h4 {f g : DFlags} {cc : Int} (n0 : fn10 cc ≠ 0) (n31 : fn10 cc ≤ 31) (px : pre10 (ixor .u8 cc 1)) (p11 : ∀ f : DFlags, pre11 (f, cc)) (a3 : fn10 (ixor .u8 cc 1) = fn10 cc)
    (of : ∀ d : Int, (d = 29 ∨ d = 30 ∨ d = 31) → pre7 (d, (cc, (8, ((0, (0, (0, (0, (0, (0, (false, 0))))))), ((0, (0, (0, (0, (0, (0, (false, 0))))))), (0, 0)))))) ∧ (fn7 (d, (cc, (8, ((0, (0, (0, (0, (0, (0, (false, 0))))))), ((0, (0, (0, (0, (0, (0, (false, 0))))))), (0, 0))))))).2.2.2.1 = fn10 cc)
    (v8 : DFlags) (v13 : List Bool) (he : fn11 (f, cc) = fn11 (v8, cc)) : Dc (f, (g, cc)) (.ret (.inl (.h4 (fn10 cc) v8 v13))) := by
  obtain ⟨q1, e1⟩ := of 29 (by omega)
  obtain ⟨q2, e2⟩ := of 30 (by omega)
  obtain ⟨q3, e3⟩ := of 31 (by omega)
  obtain ⟨z1, z2⟩ := wakes_ok
  clear of
  refine .jump _ ?_
  simp only [step4]
  refine dc_need (p11 _) (dc_need (p11 _) ?_)
  refine dc_yes (by rw [he]; simp) ?_
  refine dc_need px ?_
  refine dc_yes (by rw [a3]; rw [ine_no.2 rfl]; rfl) ?_
  refine dc_yes (by rw [ieq_no.2 n0]; rfl) ?_
  refine dc_no (ilt_no.2 n31) ?_
  iterate 6 refine dc_need (by decide) ?_
  refine dc_need q1 ?_
  refine dc_no (by rw [e1]; exact ine_no.2 rfl) ?_
  iterate 3 refine dc_need (by decide) ?_
  refine dc_need q2 ?_
  refine dc_no (by rw [e2]; exact ine_no.2 rfl) ?_
  iterate 3 refine dc_need (by decide) ?_
  refine dc_need q3 ?_
  refine dc_no (by rw [e3]; exact ine_no.2 rfl) ?_
  refine dc_need z1 ?_
  rw [z2]
  exact .ret
theorem dc_h0 {f g : DFlags} {cc m : Int} (v8 : Bool) (k : Dc (f, (g, cc)) (.ret (.inl (.h1 m v8 (bif bitOf m 1 then f.2.1 else g.2.1) [f.1, f.2.1, f.2.2.1, f.2.2.2.1, f.2.2.2.2])))) : Dc (f, (g, cc)) (.ret (.inl (.h0 m v8 [f.1, f.2.1, f.2.2.1, f.2.2.2.1, f.2.2.2.2]))) := by
  refine .jump _ ?_
  simp only [step4]
  refine dc_need (by decide) ?_
  cases h : bitOf m 1 with
  | false => rw [h] at k; exact dc_no h k
  | true =>
    rw [h] at k
    refine dc_yes h ?_
    iterate 5 refine dc_need (by decide) ?_
    exact k
theorem dc_h1 {f g : DFlags} {cc m : Int} (v8 : Bool) (v9 : Bool) (k : Dc (f, (g, cc)) (.ret (.inl (.h2 m v8 v9 (bif bitOf m 2 then f.2.2.1 else g.2.2.1) [f.1, f.2.1, f.2.2.1, f.2.2.2.1, f.2.2.2.2])))) : Dc (f, (g, cc)) (.ret (.inl (.h1 m v8 v9 [f.1, f.2.1, f.2.2.1, f.2.2.2.1, f.2.2.2.2]))) := by
  refine .jump _ ?_
  simp only [step4]
  refine dc_need (by decide) ?_
  cases h : bitOf m 2 with
  | false => rw [h] at k; exact dc_no h k
  | true =>
    rw [h] at k
    refine dc_yes h ?_
    iterate 5 refine dc_need (by decide) ?_
    exact k
theorem dc_h2 {f g : DFlags} {cc m : Int} (v8 : Bool) (v9 : Bool) (v10 : Bool) (k : Dc (f, (g, cc)) (.ret (.inl (.h3 m v8 v9 v10 (bif bitOf m 3 then f.2.2.2.1 else g.2.2.2.1) [f.1, f.2.1, f.2.2.1, f.2.2.2.1, f.2.2.2.2])))) : Dc (f, (g, cc)) (.ret (.inl (.h2 m v8 v9 v10 [f.1, f.2.1, f.2.2.1, f.2.2.2.1, f.2.2.2.2]))) := by
  refine .jump _ ?_
  simp only [step4]
  refine dc_need (by decide) ?_
  cases h : bitOf m 3 with
  | false => rw [h] at k; exact dc_no h k
  | true =>
    rw [h] at k
    refine dc_yes h ?_
    iterate 5 refine dc_need (by decide) ?_
    exact k
theorem dc_h3 {f g : DFlags} {cc m : Int} (v8 : Bool) (v9 : Bool) (v10 : Bool) (v11 : Bool) (k : Dc (f, (g, cc)) (.ret (.inl (.h4 m (v8, (v9, (v10, (v11, (bif bitOf m 4 then f.2.2.2.2 else g.2.2.2.2))))) [f.1, f.2.1, f.2.2.1, f.2.2.2.1, f.2.2.2.2])))) : Dc (f, (g, cc)) (.ret (.inl (.h3 m v8 v9 v10 v11 [f.1, f.2.1, f.2.2.1, f.2.2.2.1, f.2.2.2.2]))) := by
  refine .jump _ ?_
  simp only [step4]
  refine dc_need (by decide) ?_
  cases h : bitOf m 4 with
  | false => rw [h] at k; exact dc_no h k
  | true =>
    rw [h] at k
    refine dc_yes h ?_
    iterate 5 refine dc_need (by decide) ?_
    exact k
theorem dc_start {f g : DFlags} {cc : Int} (pc : pre10 cc) (k : Dc (f, (g, cc)) (.ret (.inl (.h4 (fn10 cc) ((bif bitOf (fn10 cc) 0 then f.1 else g.1), ((bif bitOf (fn10 cc) 1 then f.2.1 else g.2.1), ((bif bitOf (fn10 cc) 2 then f.2.2.1 else g.2.2.1), ((bif bitOf (fn10 cc) 3 then f.2.2.2.1 else g.2.2.2.1), (bif bitOf (fn10 cc) 4 then f.2.2.2.2 else g.2.2.2.2))))) [f.1, f.2.1, f.2.2.1, f.2.2.2.1, f.2.2.2.2])))) : Dc (f, (g, cc)) (tree4 (f, (g, cc))) := by
  have k := dc_h0 _ (dc_h1 _ _ (dc_h2 _ _ _ (dc_h3 _ _ _ _ k)))
  unfold tree4
  refine dc_need pc ?_
  iterate 6 refine dc_need (by decide) ?_
  cases h : bitOf (fn10 cc) 0 with
  | false => rw [h] at k; exact dc_no h k
  | true =>
    rw [h] at k
    refine dc_yes h ?_
    iterate 5 refine dc_need (by decide) ?_
    exact k
theorem mix_ok {f g : DFlags} {cc m : Int} (k : Nat) (hk : kOf cc = k) (hk8 : k < 8) (hm : m = rdc (.int .u8) [8, 1, 2, 3, 4, 16, 12, 14] k) : fn11 (f, cc) = fn11 (((bif bitOf m 0 then f.1 else g.1), ((bif bitOf m 1 then f.2.1 else g.2.1), ((bif bitOf m 2 then f.2.2.1 else g.2.2.1), ((bif bitOf m 3 then f.2.2.2.1 else g.2.2.2.1), (bif bitOf m 4 then f.2.2.2.2 else g.2.2.2.2))))), cc) := by
  rw [fn11_k, fn11_k, hk]
  rw [show ((k : Nat) : Int).toNat = k from rfl]
  generalize ieq (irem .u8 cc 2) 1 = odd
  subst hm
  obtain ⟨c, z, s, o, p⟩ := f
  have h : k = 0 ∨ k = 1 ∨ k = 2 ∨ k = 3 ∨ k = 4 ∨ k = 5 ∨ k = 6 ∨ k = 7 := by omega
  rcases h with h | h | h | h | h | h | h | h <;> subst h <;> rfl
theorem cond_law (x : DFlags × (DFlags × Int)) (w : TC.wf (.st CFlags (.st CFlags (.st1 (.int .u8)))) x) : pre4 x ∧ fn4 x = true := by
  obtain ⟨f, g, cc⟩ := x
  have hc : 0 ≤ cc ∧ cc < 256 := by
    have h : TC.wf (.int .u8) cc := w.2.2
    simp only [TC.wf, Lit.wf] at h
    have e1 : IntKind.u8.min = 0 := rfl
    have e2 : IntKind.u8.max = 255 := rfl
    have : IntKind.u8.min ≤ cc ∧ cc ≤ IntKind.u8.max := by simpa using h
    rw [e1, e2] at this
    exact ⟨this.1, by omega⟩
  obtain ⟨a1, a2, a3, a4, a5, a6, a7⟩ := idx_at hc.1 hc.2
  have pc := pre10_ok hc.1 hc.2
  have px := pre10_ok a4 a5
  have of : ∀ d : Int, (d = 29 ∨ d = 30 ∨ d = 31) → pre7 (d, (cc, (8, ((0, (0, (0, (0, (0, (0, (false, 0))))))), ((0, (0, (0, (0, (0, (0, (false, 0))))))), (0, 0)))))) ∧ (fn7 (d, (cc, (8, ((0, (0, (0, (0, (0, (0, (false, 0))))))), ((0, (0, (0, (0, (0, (0, (false, 0))))))), (0, 0))))))).2.2.2.1 = fn10 cc := by
    intro d hd
    obtain ⟨q, R, W, A, i, o, l, s, e, _, gg⟩ := of_ok (d, (cc, (8, ((0, (0, (0, (0, (0, (0, (false, 0))))))), ((0, (0, (0, (0, (0, (0, (false, 0))))))), (0, 0)))))) pc
    refine ⟨q, ?_⟩
    rw [e]
    exact gg.cond hd
  have p11 : ∀ f : DFlags, pre11 (f, cc) := fun f => pre11_ok f a1 a2
  have b1 : 0 ≤ kOf cc := a1
  have b2 : kOf cc < 8 := a2
  obtain ⟨k, hk⟩ : ∃ k : Nat, kOf cc = k := ⟨(kOf cc).toNat, by omega⟩
  have hk8 : k < 8 := by omega
  have hm : fn10 cc = rdc (.int .u8) [8, 1, 2, 3, 4, 16, 12, 14] k := by
    rw [fn10_k, hk]
    rfl
  have hb : fn10 cc ≠ 0 ∧ fn10 cc ≤ 31 := by
    rw [hm]
    have h : k = 0 ∨ k = 1 ∨ k = 2 ∨ k = 3 ∨ k = 4 ∨ k = 5 ∨ k = 6 ∨ k = 7 := by omega
    rcases h with h | h | h | h | h | h | h | h <;> subst h <;> decide
  have fin := dc_start (f := f) (g := g) pc (dc_h4 hb.1 hb.2 px p11 a3 of _ _ (mix_ok k hk hk8 hm))
  exact ⟨⟨_, fin⟩, endVal_eq fin⟩
end Go.Eng.RU
end
