/- A part of the proof that the laws of this seat hold. Conditions: none beyond the row. -/
import Derived.Test.YtohejjhnnghieaaDoorFns1
import Derived.KernelRfl
set_option linter.unusedVariables false
set_option linter.unusedSimpArgs false
set_option linter.unusedSectionVars false
section
/- facts.Of: what its rows hold. -/
namespace Go.Eng.RU
open Go.Eng
set_option maxRecDepth 100000
set_option linter.unusedSectionVars false
set_option linter.unusedSimpArgs false
set_option linter.unusedVariables false
noncomputable def fin7 (x : DInsn) (R W A : List Int) (i o l s : Int) : DFacts := (rise R, (rise W, (rise A, (i, (o, (l, (s, fn17 ([26, 27, 28, 29], x.1))))))))
def Fin (x : DInsn) (t : Tr (J7 ⊕ DFacts)) (P : List Int → List Int → List Int → Int → Int → Int → Int → Prop) : Prop := ∃ R W A i o l s, Ends (step7 x) (fin7 x R W A i o l s) t ∧ (R.length ≤ 1000 ∧ W.length ≤ 1000 ∧ A.length ≤ 1000) ∧ P R W A i o l s
variable {x : DInsn} {t e : Tr (J7 ⊕ DFacts)} {P Q : List Int → List Int → List Int → Int → Int → Int → Int → Prop}
theorem fin_imp (h : Fin x t P) (k : ∀ R W A i o l s, P R W A i o l s → Q R W A i o l s) : Fin x t Q := by
  obtain ⟨R, W, A, i, o, l, s, h1, hl, h2⟩ := h
  exact ⟨R, W, A, i, o, l, s, h1, hl, k _ _ _ _ _ _ _ h2⟩
theorem fin_need {p : Prop} (h : p) (k : Fin x t P) : Fin x (.need p t) P := by
  obtain ⟨R, W, A, i, o, l, s, h1, h2⟩ := k
  exact ⟨R, W, A, i, o, l, s, .need _ _ h h1, h2⟩
theorem fin_ite {b : Bool} (h1 : b = true → Fin x t P) (h2 : b = false → Fin x e P) : Fin x (.ite b t e) P := by
  cases b
  · obtain ⟨R, W, A, i, o, l, s, h1, h2⟩ := h2 rfl
    exact ⟨R, W, A, i, o, l, s, .no _ _ h1, h2⟩
  · obtain ⟨R, W, A, i, o, l, s, h1, h2⟩ := h1 rfl
    exact ⟨R, W, A, i, o, l, s, .yes _ _ h1, h2⟩
theorem fin_jump {j : J7} (h : Fin x (step7 x j) P) : Fin x (.ret (.inl j)) P := by
  obtain ⟨R, W, A, i, o, l, s, h1, h2⟩ := h
  exact ⟨R, W, A, i, o, l, s, .jump _ h1, h2⟩
theorem l0 : ([] : List Int).length ≤ 1000 := by simp
theorem fin_23 {i o : Int} (h : P [] [] [] i o 0 0) : Fin x (.ret (.inl (.h23 i o))) P := by
  refine fin_jump ⟨_, _, _, _, _, _, _, ?_, ⟨l0, l0, l0⟩, h⟩
  simp only [step7, step7h23, ends_need, ends_ret, (rise_ok l0).1, (rise_ok l0).2, pre17_ok, true_and, fin7]
theorem fin_24 {a b : Nat} {i o : Int} {R W : List Int} (ha : a = R.length) (hb : b = W.length) (h1 : a ≤ 1000) (h2 : b ≤ 1000) (h : P R W [] i o 0 0) : Fin x (.ret (.inl (.h24 a b i o R W))) P := by
  subst ha hb
  refine fin_jump ⟨_, _, _, _, _, _, _, ?_, ⟨h1, h2, l0⟩, h⟩
  simp only [step7, step7h24, ends_need, ends_ret, (rise_ok l0).1, (rise_ok l0).2, (rise_ok h1).1, (rise_ok h1).2, (rise_ok h2).1, (rise_ok h2).2, pre17_ok, true_and, fin7]
theorem fin_25 {a b : Nat} {i o l s : Int} {R A : List Int} (ha : a = R.length) (hb : b = A.length) (h1 : a ≤ 1000) (h2 : b ≤ 1000) (h : P R [] A i o l s) : Fin x (.ret (.inl (.h25 a b i o l s R A))) P := by
  subst ha hb
  refine fin_jump ⟨_, _, _, _, _, _, _, ?_, ⟨h1, l0, h2⟩, h⟩
  simp only [step7, step7h25, ends_need, ends_ret, (rise_ok l0).1, (rise_ok l0).2, (rise_ok h1).1, (rise_ok h1).2, (rise_ok h2).1, (rise_ok h2).2, pre17_ok, true_and, fin7]
theorem fin_26 {a : Nat} {i o : Int} {R : List Int} (ha : a = R.length) (h1 : a ≤ 1000) (h : P R [] [] i o 0 0) : Fin x (.ret (.inl (.h26 a i o R))) P := by
  subst ha
  refine fin_jump ⟨_, _, _, _, _, _, _, ?_, ⟨h1, l0, l0⟩, h⟩
  simp only [step7, step7h26, ends_need, ends_ret, (rise_ok l0).1, (rise_ok l0).2, (rise_ok h1).1, (rise_ok h1).2, pre17_ok, true_and, fin7]
theorem fin_27 {a b c : Nat} {n i o l s : Int} {R W A : List Int} (ha : a = R.length) (hb : b = W.length) (hc : c = A.length) (h1 : a ≤ 1000) (h2 : b ≤ 1000) (h3 : c ≤ 1000) (h : P R W A i o l s) : Fin x (.ret (.inl (.h27 n a b c i o l s R W A))) P := by
  subst ha hb hc
  refine fin_jump ⟨_, _, _, _, _, _, _, ?_, ⟨h1, h2, h3⟩, h⟩
  simp only [step7, step7h27, ends_need, ends_ret, (rise_ok h3).1, (rise_ok h3).2, (rise_ok h1).1, (rise_ok h1).2, (rise_ok h2).1, (rise_ok h2).2, pre17_ok, true_and, fin7]
theorem fin_28 {i o : Int} {W : List Int} (ha : 1 = W.length) (h : P [] W [] i o 0 0) : Fin x (.ret (.inl (.h28 i o W))) P := by
  have h1 : W.length ≤ 1000 := by omega
  refine fin_jump ⟨_, _, _, _, _, _, _, ?_, ⟨l0, h1, l0⟩, h⟩
  simp only [step7, step7h28, ends_need, ends_ret, (rise_ok l0).1, (rise_ok l0).2, (rise_ok h1).1, (rise_ok h1).2, pre17_ok, true_and, fin7]
  exact ⟨ha, trivial⟩
theorem fin_29 {R W : List Int} (ha : 1 = W.length) (h2 : R.length ≤ 1000) (h : P R W [] 0 0 0 0) : Fin x (.ret (.inl (.h29 R W))) P := by
  have h1 : W.length ≤ 1000 := by omega
  refine fin_jump ⟨_, _, _, _, _, _, _, ?_, ⟨h2, h1, l0⟩, h⟩
  simp only [step7, step7h29, ends_need, ends_ret, (rise_ok l0).1, (rise_ok l0).2, (rise_ok h1).1, (rise_ok h1).2, (rise_ok h2).1, (rise_ok h2).2, pre17_ok, true_and, fin7]
  exact ⟨ha, trivial⟩
theorem fin_30 {R : List Int} (h2 : R.length ≤ 1000) (h : P R [] [] 0 0 0 0) : Fin x (.ret (.inl (.h30 R))) P := by
  refine fin_jump ⟨_, _, _, _, _, _, _, ?_, ⟨h2, l0, l0⟩, h⟩
  simp only [step7, step7h30, ends_need, ends_ret, (rise_ok l0).1, (rise_ok l0).2, (rise_ok h2).1, (rise_ok h2).2, pre17_ok, true_and, fin7]
theorem pre9_ok (x) : pre9 x := by unfold pre9 tree9; simp only [ok_ite, ok_need, ok_ret]; simp
theorem pre40_ok (x) : pre40 x := by unfold pre40 tree40; trivial
theorem pre64_ok (x) : pre64 x := by unfold pre64 tree64; trivial
theorem pre15_ok : pre15 () := by unfold pre15 tree15; simp [Tr.ok]
theorem nought_iff : fn9 x = true ↔ (x.1 = 9 ∨ x.1 = 8 ∨ x.1 = 36) ∧ x.2.2.2.1.1 = 1 ∧ x.2.2.2.2.1.1 = 1 ∧ x.2.2.2.1.2.1 = x.2.2.2.2.1.2.1 := by
  unfold fn9 tree9
  simp only [val_ite, val_ret]
  cases h1 : ieq x.1 9 <;> cases h2 : ieq x.1 8 <;> cases h3 : ieq x.1 36 <;> cases h4 : ieq x.2.2.2.1.1 1 <;> cases h5 : ieq x.2.2.2.2.1.1 1 <;> simp_all [ieq_iff, ieq_no]
theorem ulen (o : DOperand) : (uses o).length ≤ 2 := uses_len o
/-- A's register alone is written, if any. -/
def G0 (x : DInsn) : List Int → List Int → List Int → Int → Int → Int → Int → Prop := fun R W A i o l s => ∀ n ∈ W, x.2.2.2.1.1 = 1 ∧ n = x.2.2.2.1.2.1
theorem g_nil {p : Int → Prop} : ∀ n ∈ ([] : List Int), p n := fun n h => by cases h
theorem g_one {a : Int} {p : Int → Prop} (h : p a) : ∀ n ∈ [a], p n := fun n hn => by rw [List.mem_singleton.1 hn]; exact h
theorem beq_false (b : Bool) : (b == false) = !b := by cases b <;> rfl
theorem fin_ff (h : false = true) : Fin x t P := by cases h
theorem fin_tf (h : true = false) : Fin x t P := by cases h
theorem fin_two {b : Bool} (h1 : b = true) (h2 : b = false) : Fin x t P := by rw [h1] at h2; cases h2
theorem c0 : Fin x (step7h0 x) (G0 x) := by
  have u1 := ulen x.2.2.2.1
  have u2 := ulen x.2.2.2.2.1
  simp only [step7h0, fn28_ok, beq_true, beq_false]
  repeat' (first
    | exact fin_ff (by assumption) | exact fin_tf (by assumption)
    | refine fin_need (by first | exact True.intro | exact pre28_ok _ | exact pre9_ok _ | exact pre40_ok _ | exact pre64_ok _ | assumption | omega | (simp only [List.length_append, List.length_cons, List.length_nil] <;> omega)) ?_
    | refine fin_ite (fun h => ?_) (fun h => ?_)
    | apply fin_23 | apply fin_24 | apply fin_25 | apply fin_26 | apply fin_27 | apply fin_28 | apply fin_29 | apply fin_30)
  all_goals first
    | omega | rfl | (simp only [List.length_append, List.length_cons, List.length_nil] <;> omega) | skip
  all_goals first
    | exact g_nil
    | exact g_one ⟨ieq_iff.1 (by assumption), rfl⟩
    | (exfalso; simp_all; done)
theorem c1 : Fin x (step7h1 x) (G0 x) := by
  have u1 := ulen x.2.2.2.1
  have u2 := ulen x.2.2.2.2.1
  simp only [step7h1, fn28_ok, beq_true, beq_false]
  repeat' (first
    | exact fin_ff (by assumption) | exact fin_tf (by assumption)
    | refine fin_need (by first | exact True.intro | exact pre28_ok _ | exact pre9_ok _ | exact pre40_ok _ | exact pre64_ok _ | assumption | omega | (simp only [List.length_append, List.length_cons, List.length_nil] <;> omega)) ?_
    | refine fin_ite (fun h => ?_) (fun h => ?_)
    | apply fin_23 | apply fin_24 | apply fin_25 | apply fin_26 | apply fin_27 | apply fin_28 | apply fin_29 | apply fin_30)
  all_goals first
    | omega | rfl | (simp only [List.length_append, List.length_cons, List.length_nil] <;> omega) | skip
  all_goals first
    | exact g_nil
    | exact g_one ⟨ieq_iff.1 (by assumption), rfl⟩
    | (exfalso; simp_all; done)
theorem c2 : Fin x (step7h2 x) (G0 x) := by
  have u1 := ulen x.2.2.2.1
  have u2 := ulen x.2.2.2.2.1
  simp only [step7h2, fn28_ok, beq_true, beq_false]
  repeat' (first
    | exact fin_ff (by assumption) | exact fin_tf (by assumption)
    | refine fin_need (by first | exact True.intro | exact pre28_ok _ | exact pre9_ok _ | exact pre40_ok _ | exact pre64_ok _ | assumption | omega | (simp only [List.length_append, List.length_cons, List.length_nil] <;> omega)) ?_
    | refine fin_ite (fun h => ?_) (fun h => ?_)
    | apply fin_23 | apply fin_24 | apply fin_25 | apply fin_26 | apply fin_27 | apply fin_28 | apply fin_29 | apply fin_30)
  all_goals first
    | omega | rfl | (simp only [List.length_append, List.length_cons, List.length_nil] <;> omega) | skip
  all_goals first
    | exact g_nil
    | exact g_one ⟨ieq_iff.1 (by assumption), rfl⟩
    | (exfalso; simp_all; done)
theorem c4 : Fin x (step7h4 x) (G0 x) := by
  have u1 := ulen x.2.2.2.1
  have u2 := ulen x.2.2.2.2.1
  simp only [step7h4, fn28_ok, beq_true, beq_false]
  repeat' (first
    | exact fin_ff (by assumption) | exact fin_tf (by assumption)
    | refine fin_need (by first | exact True.intro | exact pre28_ok _ | exact pre9_ok _ | exact pre40_ok _ | exact pre64_ok _ | assumption | omega | (simp only [List.length_append, List.length_cons, List.length_nil] <;> omega)) ?_
    | refine fin_ite (fun h => ?_) (fun h => ?_)
    | apply fin_23 | apply fin_24 | apply fin_25 | apply fin_26 | apply fin_27 | apply fin_28 | apply fin_29 | apply fin_30)
  all_goals first
    | omega | rfl | (simp only [List.length_append, List.length_cons, List.length_nil] <;> omega) | skip
  all_goals first
    | exact g_nil
    | exact g_one ⟨ieq_iff.1 (by assumption), rfl⟩
    | (exfalso; simp_all; done)
theorem c5 : Fin x (step7h5 x) (G0 x) := by
  have u1 := ulen x.2.2.2.1
  have u2 := ulen x.2.2.2.2.1
  simp only [step7h5, fn28_ok, beq_true, beq_false]
  repeat' (first
    | exact fin_ff (by assumption) | exact fin_tf (by assumption)
    | refine fin_need (by first | exact True.intro | exact pre28_ok _ | exact pre9_ok _ | exact pre40_ok _ | exact pre64_ok _ | assumption | omega | (simp only [List.length_append, List.length_cons, List.length_nil] <;> omega)) ?_
    | refine fin_ite (fun h => ?_) (fun h => ?_)
    | apply fin_23 | apply fin_24 | apply fin_25 | apply fin_26 | apply fin_27 | apply fin_28 | apply fin_29 | apply fin_30)
  all_goals first
    | omega | rfl | (simp only [List.length_append, List.length_cons, List.length_nil] <;> omega) | skip
  all_goals first
    | exact g_nil
    | exact g_one ⟨ieq_iff.1 (by assumption), rfl⟩
    | (exfalso; simp_all; done)
theorem c6 : Fin x (step7h6 x) (G0 x) := by
  have u1 := ulen x.2.2.2.1
  have u2 := ulen x.2.2.2.2.1
  simp only [step7h6, fn28_ok, beq_true, beq_false]
  repeat' (first
    | exact fin_ff (by assumption) | exact fin_tf (by assumption)
    | refine fin_need (by first | exact True.intro | exact pre28_ok _ | exact pre9_ok _ | exact pre40_ok _ | exact pre64_ok _ | assumption | omega | (simp only [List.length_append, List.length_cons, List.length_nil] <;> omega)) ?_
    | refine fin_ite (fun h => ?_) (fun h => ?_)
    | apply fin_23 | apply fin_24 | apply fin_25 | apply fin_26 | apply fin_27 | apply fin_28 | apply fin_29 | apply fin_30)
  all_goals first
    | omega | rfl | (simp only [List.length_append, List.length_cons, List.length_nil] <;> omega) | skip
  all_goals first
    | exact g_nil
    | exact g_one ⟨ieq_iff.1 (by assumption), rfl⟩
    | (exfalso; simp_all; done)
theorem c7 : Fin x (step7h7 x) (G0 x) := by
  have u1 := ulen x.2.2.2.1
  have u2 := ulen x.2.2.2.2.1
  simp only [step7h7, fn28_ok, beq_true, beq_false]
  repeat' (first
    | exact fin_ff (by assumption) | exact fin_tf (by assumption)
    | refine fin_need (by first | exact True.intro | exact pre28_ok _ | exact pre9_ok _ | exact pre40_ok _ | exact pre64_ok _ | assumption | omega | (simp only [List.length_append, List.length_cons, List.length_nil] <;> omega)) ?_
    | refine fin_ite (fun h => ?_) (fun h => ?_)
    | apply fin_23 | apply fin_24 | apply fin_25 | apply fin_26 | apply fin_27 | apply fin_28 | apply fin_29 | apply fin_30)
  all_goals first
    | omega | rfl | (simp only [List.length_append, List.length_cons, List.length_nil] <;> omega) | skip
  all_goals first
    | exact g_nil
    | exact g_one ⟨ieq_iff.1 (by assumption), rfl⟩
    | (exfalso; simp_all; done)
theorem c8 : Fin x (step7h8 x) (G0 x) := by
  have u1 := ulen x.2.2.2.1
  have u2 := ulen x.2.2.2.2.1
  simp only [step7h8, fn28_ok, beq_true, beq_false]
  repeat' (first
    | exact fin_ff (by assumption) | exact fin_tf (by assumption)
    | refine fin_need (by first | exact True.intro | exact pre28_ok _ | exact pre9_ok _ | exact pre40_ok _ | exact pre64_ok _ | assumption | omega | (simp only [List.length_append, List.length_cons, List.length_nil] <;> omega)) ?_
    | refine fin_ite (fun h => ?_) (fun h => ?_)
    | apply fin_23 | apply fin_24 | apply fin_25 | apply fin_26 | apply fin_27 | apply fin_28 | apply fin_29 | apply fin_30)
  all_goals first
    | omega | rfl | (simp only [List.length_append, List.length_cons, List.length_nil] <;> omega) | skip
  all_goals first
    | exact g_nil
    | exact g_one ⟨ieq_iff.1 (by assumption), rfl⟩
    | (exfalso; simp_all; done)
theorem c9 : Fin x (step7h9 x) (G0 x) := by
  have u1 := ulen x.2.2.2.1
  have u2 := ulen x.2.2.2.2.1
  simp only [step7h9, fn28_ok, beq_true, beq_false]
  repeat' (first
    | exact fin_ff (by assumption) | exact fin_tf (by assumption)
    | refine fin_need (by first | exact True.intro | exact pre28_ok _ | exact pre9_ok _ | exact pre40_ok _ | exact pre64_ok _ | assumption | omega | (simp only [List.length_append, List.length_cons, List.length_nil] <;> omega)) ?_
    | refine fin_ite (fun h => ?_) (fun h => ?_)
    | apply fin_23 | apply fin_24 | apply fin_25 | apply fin_26 | apply fin_27 | apply fin_28 | apply fin_29 | apply fin_30)
  all_goals first
    | omega | rfl | (simp only [List.length_append, List.length_cons, List.length_nil] <;> omega) | skip
  all_goals first
    | exact g_nil
    | exact g_one ⟨ieq_iff.1 (by assumption), rfl⟩
    | (exfalso; simp_all; done)
theorem c10 : Fin x (step7h10 x) (G0 x) := by
  have u1 := ulen x.2.2.2.1
  have u2 := ulen x.2.2.2.2.1
  simp only [step7h10, fn28_ok, beq_true, beq_false]
  repeat' (first
    | exact fin_ff (by assumption) | exact fin_tf (by assumption)
    | refine fin_need (by first | exact True.intro | exact pre28_ok _ | exact pre9_ok _ | exact pre40_ok _ | exact pre64_ok _ | assumption | omega | (simp only [List.length_append, List.length_cons, List.length_nil] <;> omega)) ?_
    | refine fin_ite (fun h => ?_) (fun h => ?_)
    | apply fin_23 | apply fin_24 | apply fin_25 | apply fin_26 | apply fin_27 | apply fin_28 | apply fin_29 | apply fin_30)
  all_goals first
    | omega | rfl | (simp only [List.length_append, List.length_cons, List.length_nil] <;> omega) | skip
  all_goals first
    | exact g_nil
    | exact g_one ⟨ieq_iff.1 (by assumption), rfl⟩
    | (exfalso; simp_all; done)
theorem c17 : Fin x (step7h17 x) (G0 x) := by
  have u1 := ulen x.2.2.2.1
  have u2 := ulen x.2.2.2.2.1
  simp only [step7h17, fn28_ok, beq_true, beq_false]
  repeat' (first
    | exact fin_ff (by assumption) | exact fin_tf (by assumption)
    | refine fin_need (by first | exact True.intro | exact pre28_ok _ | exact pre9_ok _ | exact pre40_ok _ | exact pre64_ok _ | assumption | omega | (simp only [List.length_append, List.length_cons, List.length_nil] <;> omega)) ?_
    | refine fin_ite (fun h => ?_) (fun h => ?_)
    | apply fin_23 | apply fin_24 | apply fin_25 | apply fin_26 | apply fin_27 | apply fin_28 | apply fin_29 | apply fin_30)
  all_goals first
    | omega | rfl | (simp only [List.length_append, List.length_cons, List.length_nil] <;> omega) | skip
  all_goals first
    | exact g_nil
    | exact g_one ⟨ieq_iff.1 (by assumption), rfl⟩
    | (exfalso; simp_all; done)
theorem c21 : Fin x (step7h21 x) (G0 x) := by
  have u1 := ulen x.2.2.2.1
  have u2 := ulen x.2.2.2.2.1
  simp only [step7h21, fn28_ok, beq_true, beq_false]
  repeat' (first
    | exact fin_ff (by assumption) | exact fin_tf (by assumption)
    | refine fin_need (by first | exact True.intro | exact pre28_ok _ | exact pre9_ok _ | exact pre40_ok _ | exact pre64_ok _ | assumption | omega | (simp only [List.length_append, List.length_cons, List.length_nil] <;> omega)) ?_
    | refine fin_ite (fun h => ?_) (fun h => ?_)
    | apply fin_23 | apply fin_24 | apply fin_25 | apply fin_26 | apply fin_27 | apply fin_28 | apply fin_29 | apply fin_30)
  all_goals first
    | omega | rfl | (simp only [List.length_append, List.length_cons, List.length_nil] <;> omega) | skip
  all_goals first
    | exact g_nil
    | exact g_one ⟨ieq_iff.1 (by assumption), rfl⟩
    | (exfalso; simp_all; done)
theorem uses_um : uses (2, (0, (4, ((-1), (1, (0, (false, 0))))))) = [4] := by decide
theorem c3n (hn : fn9 x = false) : Fin x (step7h3 x) (G0 x) := by
  have u1 := ulen x.2.2.2.1
  have u2 := ulen x.2.2.2.2.1
  simp only [step7h3, fn28_ok, beq_true, beq_false, hn, Bool.not_false]
  repeat' (first
    | exact fin_ff (by assumption) | exact fin_tf (by assumption)
    | refine fin_need (by first | exact True.intro | exact pre28_ok _ | exact pre9_ok _ | exact pre40_ok _ | exact pre64_ok _ | assumption | omega | (simp only [List.length_append, List.length_cons, List.length_nil] <;> omega)) ?_
    | refine fin_ite (fun h => ?_) (fun h => ?_)
    | apply fin_23 | apply fin_24 | apply fin_25 | apply fin_26 | apply fin_27 | apply fin_28 | apply fin_29 | apply fin_30)
  all_goals first
    | omega | rfl | (simp only [List.length_append, List.length_cons, List.length_nil] <;> omega) | skip
  all_goals first
    | exact g_nil
    | exact g_one ⟨ieq_iff.1 (by assumption), rfl⟩
    | (exfalso; simp_all; done)
theorem c3y (hn : fn9 x = true) (hk : ieq x.2.2.2.1.1 1 = true) : Fin x (step7h3 x) (fun R W A i o l s => R = [] ∧ W = [x.2.2.2.1.2.1] ∧ i = 0 ∧ l = 0 ∧ o = 31) := by
  have u1 := ulen x.2.2.2.1
  have u2 := ulen x.2.2.2.2.1
  simp only [step7h3, fn28_ok, beq_true, beq_false, hn, hk, Bool.not_true]
  repeat' (first
    | exact fin_ff (by assumption) | exact fin_tf (by assumption)
    | refine fin_need (by first | exact True.intro | exact pre28_ok _ | exact pre9_ok _ | exact pre40_ok _ | exact pre64_ok _ | assumption | omega | (simp only [List.length_append, List.length_cons, List.length_nil] <;> omega)) ?_
    | refine fin_ite (fun h => ?_) (fun h => ?_)
    | apply fin_23 | apply fin_24 | apply fin_25 | apply fin_26 | apply fin_27 | apply fin_28 | apply fin_29 | apply fin_30)
  all_goals first
    | omega | rfl | (simp only [List.length_append, List.length_cons, List.length_nil] <;> omega) | skip
  all_goals exact ⟨rfl, rfl, rfl, rfl, rfl⟩
theorem c22n (hn : fn9 x = false) : Fin x (step7h22 x) (G0 x) := by
  have u1 := ulen x.2.2.2.1
  have u2 := ulen x.2.2.2.2.1
  simp only [step7h22, fn28_ok, beq_true, beq_false, hn, Bool.not_false]
  repeat' (first
    | exact fin_ff (by assumption) | exact fin_tf (by assumption)
    | refine fin_need (by first | exact True.intro | exact pre28_ok _ | exact pre9_ok _ | exact pre40_ok _ | exact pre64_ok _ | assumption | omega | (simp only [List.length_append, List.length_cons, List.length_nil] <;> omega)) ?_
    | refine fin_ite (fun h => ?_) (fun h => ?_)
    | apply fin_23 | apply fin_24 | apply fin_25 | apply fin_26 | apply fin_27 | apply fin_28 | apply fin_29 | apply fin_30)
  all_goals first
    | omega | rfl | (simp only [List.length_append, List.length_cons, List.length_nil] <;> omega) | skip
  all_goals first
    | exact g_nil
    | exact g_one ⟨ieq_iff.1 (by assumption), rfl⟩
    | (exfalso; simp_all; done)
theorem c22y (hn : fn9 x = true) (hk : ieq x.2.2.2.1.1 1 = true) : Fin x (step7h22 x) (fun R W A i o l s => R = [] ∧ W = [x.2.2.2.1.2.1] ∧ i = 0 ∧ l = 0) := by
  have u1 := ulen x.2.2.2.1
  have u2 := ulen x.2.2.2.2.1
  simp only [step7h22, fn28_ok, beq_true, beq_false, hn, hk, Bool.not_true]
  repeat' (first
    | exact fin_ff (by assumption) | exact fin_tf (by assumption)
    | refine fin_need (by first | exact True.intro | exact pre28_ok _ | exact pre9_ok _ | exact pre40_ok _ | exact pre64_ok _ | assumption | omega | (simp only [List.length_append, List.length_cons, List.length_nil] <;> omega)) ?_
    | refine fin_ite (fun h => ?_) (fun h => ?_)
    | apply fin_23 | apply fin_24 | apply fin_25 | apply fin_26 | apply fin_27 | apply fin_28 | apply fin_29 | apply fin_30)
  all_goals first
    | omega | rfl | (simp only [List.length_append, List.length_cons, List.length_nil] <;> omega) | skip
  all_goals exact ⟨rfl, rfl, rfl, rfl⟩
theorem c11 : Fin x (step7h11 x) (fun R W A i o l s => W = [0, 2]) := by
  have u1 := ulen x.2.2.2.1
  have u2 := ulen x.2.2.2.2.1
  simp only [step7h11, fn28_ok, beq_true, beq_false]
  repeat' (first
    | exact fin_ff (by assumption) | exact fin_tf (by assumption)
    | refine fin_need (by first | exact True.intro | exact pre28_ok _ | exact pre9_ok _ | exact pre40_ok _ | exact pre64_ok _ | assumption | omega | (simp only [List.length_append, List.length_cons, List.length_nil] <;> omega)) ?_
    | refine fin_ite (fun h => ?_) (fun h => ?_)
    | apply fin_23 | apply fin_24 | apply fin_25 | apply fin_26 | apply fin_27 | apply fin_28 | apply fin_29 | apply fin_30)
  all_goals first
    | omega | rfl | (simp only [List.length_append, List.length_cons, List.length_nil] <;> omega) | skip
  all_goals rfl
theorem c12 : Fin x (step7h12 x) (fun R W A i o l s => W = [0, 2]) := by
  have u1 := ulen x.2.2.2.1
  have u2 := ulen x.2.2.2.2.1
  simp only [step7h12, fn28_ok, beq_true, beq_false]
  repeat' (first
    | exact fin_ff (by assumption) | exact fin_tf (by assumption)
    | refine fin_need (by first | exact True.intro | exact pre28_ok _ | exact pre9_ok _ | exact pre40_ok _ | exact pre64_ok _ | assumption | omega | (simp only [List.length_append, List.length_cons, List.length_nil] <;> omega)) ?_
    | refine fin_ite (fun h => ?_) (fun h => ?_)
    | apply fin_23 | apply fin_24 | apply fin_25 | apply fin_26 | apply fin_27 | apply fin_28 | apply fin_29 | apply fin_30)
  all_goals first
    | omega | rfl | (simp only [List.length_append, List.length_cons, List.length_nil] <;> omega) | skip
  all_goals rfl
theorem c13 : Fin x (step7h13 x) (fun R W A i o l s => W = [4] ∧ 4 ∈ A) := by
  have u1 := ulen x.2.2.2.1
  have u2 := ulen x.2.2.2.2.1
  simp only [step7h13, fn28_ok, beq_true, beq_false, uses_um]
  repeat' (first
    | exact fin_ff (by assumption) | exact fin_tf (by assumption)
    | refine fin_need (by first | exact True.intro | exact pre28_ok _ | exact pre9_ok _ | exact pre40_ok _ | exact pre64_ok _ | assumption | omega | (simp only [List.length_append, List.length_cons, List.length_nil] <;> omega)) ?_
    | refine fin_ite (fun h => ?_) (fun h => ?_)
    | apply fin_23 | apply fin_24 | apply fin_25 | apply fin_26 | apply fin_27 | apply fin_28 | apply fin_29 | apply fin_30)
  all_goals first
    | omega | rfl | (simp only [List.length_append, List.length_cons, List.length_nil] <;> omega) | skip
  all_goals exact ⟨rfl, by simp⟩
theorem c14 : Fin x (step7h14 x) (fun R W A i o l s => (W = [4] ∨ (W = [4, x.2.2.2.1.2.1] ∧ x.2.2.2.1.1 = 1)) ∧ 4 ∈ A) := by
  have u1 := ulen x.2.2.2.1
  have u2 := ulen x.2.2.2.2.1
  simp only [step7h14, fn28_ok, beq_true, beq_false, uses_um]
  repeat' (first
    | exact fin_ff (by assumption) | exact fin_tf (by assumption)
    | refine fin_need (by first | exact True.intro | exact pre28_ok _ | exact pre9_ok _ | exact pre40_ok _ | exact pre64_ok _ | assumption | omega | (simp only [List.length_append, List.length_cons, List.length_nil] <;> omega)) ?_
    | refine fin_ite (fun h => ?_) (fun h => ?_)
    | apply fin_23 | apply fin_24 | apply fin_25 | apply fin_26 | apply fin_27 | apply fin_28 | apply fin_29 | apply fin_30)
  all_goals first
    | omega | rfl | (simp only [List.length_append, List.length_cons, List.length_nil] <;> omega) | skip
  all_goals first | exact ⟨.inl rfl, by simp⟩ | exact ⟨.inr ⟨rfl, ieq_iff.1 (by assumption)⟩, by simp⟩
theorem c15 : Fin x (step7h15 x) (fun R W A i o l s => W = [4] ∧ 4 ∈ A) := by
  have u1 := ulen x.2.2.2.1
  have u2 := ulen x.2.2.2.2.1
  simp only [step7h15, fn28_ok, beq_true, beq_false, uses_um]
  repeat' (first
    | exact fin_ff (by assumption) | exact fin_tf (by assumption)
    | refine fin_need (by first | exact True.intro | exact pre28_ok _ | exact pre9_ok _ | exact pre40_ok _ | exact pre64_ok _ | assumption | omega | (simp only [List.length_append, List.length_cons, List.length_nil] <;> omega)) ?_
    | refine fin_ite (fun h => ?_) (fun h => ?_)
    | apply fin_23 | apply fin_24 | apply fin_25 | apply fin_26 | apply fin_27 | apply fin_28 | apply fin_29 | apply fin_30)
  all_goals first
    | omega | rfl | (simp only [List.length_append, List.length_cons, List.length_nil] <;> omega) | skip
  all_goals exact ⟨rfl, by simp⟩
theorem c16 : Fin x (step7h16 x) (fun R W A i o l s => W = [4] ∧ 4 ∈ A) := by
  have u1 := ulen x.2.2.2.1
  have u2 := ulen x.2.2.2.2.1
  simp only [step7h16, fn28_ok, beq_true, beq_false, uses_um]
  repeat' (first
    | exact fin_ff (by assumption) | exact fin_tf (by assumption)
    | refine fin_need (by first | exact True.intro | exact pre28_ok _ | exact pre9_ok _ | exact pre40_ok _ | exact pre64_ok _ | assumption | omega | (simp only [List.length_append, List.length_cons, List.length_nil] <;> omega)) ?_
    | refine fin_ite (fun h => ?_) (fun h => ?_)
    | apply fin_23 | apply fin_24 | apply fin_25 | apply fin_26 | apply fin_27 | apply fin_28 | apply fin_29 | apply fin_30)
  all_goals first
    | omega | rfl | (simp only [List.length_append, List.length_cons, List.length_nil] <;> omega) | skip
  all_goals exact ⟨rfl, by simp⟩
theorem c18 (hc : pre10 x.2.1) : Fin x (step7h18 x) (fun R W A i o l s => G0 x R W A i o l s ∧ i = fn10 x.2.1) := by
  have u1 := ulen x.2.2.2.1
  have u2 := ulen x.2.2.2.2.1
  simp only [step7h18, fn28_ok, beq_true, beq_false]
  repeat' (first
    | exact fin_ff (by assumption) | exact fin_tf (by assumption)
    | refine fin_need (by first | exact True.intro | exact pre28_ok _ | exact pre9_ok _ | exact pre40_ok _ | exact pre64_ok _ | assumption | omega | (simp only [List.length_append, List.length_cons, List.length_nil] <;> omega)) ?_
    | refine fin_ite (fun h => ?_) (fun h => ?_)
    | apply fin_23 | apply fin_24 | apply fin_25 | apply fin_26 | apply fin_27 | apply fin_28 | apply fin_29 | apply fin_30)
  all_goals first
    | omega | rfl | (simp only [List.length_append, List.length_cons, List.length_nil] <;> omega) | skip
  all_goals exact ⟨g_nil, rfl⟩
theorem c19 (hc : pre10 x.2.1) : Fin x (step7h19 x) (fun R W A i o l s => G0 x R W A i o l s ∧ i = fn10 x.2.1) := by
  have u1 := ulen x.2.2.2.1
  have u2 := ulen x.2.2.2.2.1
  simp only [step7h19, fn28_ok, beq_true, beq_false]
  repeat' (first
    | exact fin_ff (by assumption) | exact fin_tf (by assumption)
    | refine fin_need (by first | exact True.intro | exact pre28_ok _ | exact pre9_ok _ | exact pre40_ok _ | exact pre64_ok _ | assumption | omega | (simp only [List.length_append, List.length_cons, List.length_nil] <;> omega)) ?_
    | refine fin_ite (fun h => ?_) (fun h => ?_)
    | apply fin_23 | apply fin_24 | apply fin_25 | apply fin_26 | apply fin_27 | apply fin_28 | apply fin_29 | apply fin_30)
  all_goals first
    | omega | rfl | (simp only [List.length_append, List.length_cons, List.length_nil] <;> omega) | skip
  all_goals first | exact ⟨g_nil, rfl⟩ | exact ⟨g_one ⟨ieq_iff.1 (by assumption), rfl⟩, rfl⟩ | exact fin_two (by assumption) (by assumption)
theorem c20 (hc : pre10 x.2.1) : Fin x (step7h20 x) (fun R W A i o l s => G0 x R W A i o l s ∧ i = fn10 x.2.1) := by
  have u1 := ulen x.2.2.2.1
  have u2 := ulen x.2.2.2.2.1
  simp only [step7h20, fn28_ok, beq_true, beq_false]
  repeat' (first
    | exact fin_ff (by assumption) | exact fin_tf (by assumption)
    | refine fin_need (by first | exact True.intro | exact pre28_ok _ | exact pre9_ok _ | exact pre40_ok _ | exact pre64_ok _ | assumption | omega | (simp only [List.length_append, List.length_cons, List.length_nil] <;> omega)) ?_
    | refine fin_ite (fun h => ?_) (fun h => ?_)
    | apply fin_23 | apply fin_24 | apply fin_25 | apply fin_26 | apply fin_27 | apply fin_28 | apply fin_29 | apply fin_30)
  all_goals first
    | omega | rfl | (simp only [List.length_append, List.length_cons, List.length_nil] <;> omega) | skip
  all_goals first | exact ⟨g_nil, rfl⟩ | exact ⟨g_one ⟨ieq_iff.1 (by assumption), rfl⟩, rfl⟩ | exact fin_two (by assumption) (by assumption)
end Go.Eng.RU
end
section
/- facts.Of: what it tells. -/
namespace Go.Eng.RU
open Go.Eng
set_option maxRecDepth 100000
set_option linter.unusedSectionVars false
set_option linter.unusedSimpArgs false
set_option linter.unusedVariables false
def stk (x : DInsn) : Prop := x.1 = 24 ∨ x.1 = 25 ∨ x.1 = 26 ∨ x.1 = 27
def cnd (x : DInsn) : Prop := x.1 = 29 ∨ x.1 = 30 ∨ x.1 = 31
structure GG (x : DInsn) (R W A : List Int) (i o l s : Int) : Prop where
  writes : ∀ n ∈ W, (x.2.2.2.1.1 = 1 ∧ n = x.2.2.2.1.2.1) ∨ (stk x ∧ n = 4) ∨ ((x.1 = 22 ∨ x.1 = 23) ∧ (n = 0 ∨ n = 2))
  stack : stk x → 4 ∈ W ∧ 4 ∈ A
  nought : fn9 x = true → R = [] ∧ W = [x.2.2.2.1.2.1] ∧ i = 0 ∧ l = 0
  xor : fn9 x = true → x.1 = 9 → o = 31
  cond : cnd x → i = fn10 x.2.1
variable {x : DInsn} {R W A : List Int} {i o l s : Int}
theorem no9 (h : x.1 ≠ 9 ∧ x.1 ≠ 8 ∧ x.1 ≠ 36) : fn9 x = false := by
  rw [Bool.eq_false_iff]
  intro k
  have := (nought_iff.1 k).1
  omega
theorem gg_plain (h1 : ¬ stk x) (h2 : fn9 x = false) (h3 : ¬ cnd x) (g : G0 x R W A i o l s) : GG x R W A i o l s :=
  ⟨fun n hn => .inl (g n hn), fun h => absurd h h1, fun h => (by rw [h2] at h; cases h), fun h => (by rw [h2] at h; cases h), fun h => absurd h h3⟩
theorem gg_nought (h1 : ¬ stk x) (h3 : ¬ cnd x) (hk : x.2.2.2.1.1 = 1) (h : R = [] ∧ W = [x.2.2.2.1.2.1] ∧ i = 0 ∧ l = 0) (ho : x.1 = 9 → o = 31) : GG x R W A i o l s :=
  ⟨fun n hn => .inl ⟨hk, by rw [h.2.1] at hn; exact List.mem_singleton.1 hn⟩, fun h => absurd h h1, fun _ => h, fun _ => ho, fun h => absurd h h3⟩
theorem gg_mul (h : x.1 = 22 ∨ x.1 = 23) (h2 : fn9 x = false) (g : W = [0, 2]) : GG x R W A i o l s :=
  ⟨fun n hn => .inr (.inr ⟨h, by rw [g] at hn; simpa using hn⟩), fun h => (by unfold stk at h; omega), fun h => (by rw [h2] at h; cases h), fun h => (by rw [h2] at h; cases h), fun h => (by unfold cnd at h; omega)⟩
theorem gg_stack (h1 : stk x) (h2 : fn9 x = false) (g : W = [4] ∧ 4 ∈ A) : GG x R W A i o l s :=
  ⟨fun n hn => .inr (.inl ⟨h1, by rw [g.1] at hn; exact List.mem_singleton.1 hn⟩), fun h => ⟨by rw [g.1]; simp, g.2⟩, fun h => (by rw [h2] at h; cases h), fun h => (by rw [h2] at h; cases h), fun h => (by unfold cnd at h; unfold stk at h1; omega)⟩
theorem gg_pop (h1 : stk x) (h2 : fn9 x = false) (g : (W = [4] ∨ (W = [4, x.2.2.2.1.2.1] ∧ x.2.2.2.1.1 = 1)) ∧ 4 ∈ A) : GG x R W A i o l s := by
  rcases g with ⟨g | ⟨g, hk⟩, hA⟩
  · exact gg_stack h1 h2 ⟨g, hA⟩
  · refine ⟨fun n hn => ?_, fun h => ⟨by rw [g]; simp, hA⟩, fun h => (by rw [h2] at h; cases h), fun h => (by rw [h2] at h; cases h), fun h => (by unfold cnd at h; unfold stk at h1; omega)⟩
    rw [g] at hn
    simp at hn
    rcases hn with rfl | rfl
    · exact .inr (.inl ⟨h1, rfl⟩)
    · exact .inl ⟨hk, rfl⟩
theorem gg_cond (h1 : ¬ stk x) (h2 : fn9 x = false) (g : G0 x R W A i o l s ∧ i = fn10 x.2.1) : GG x R W A i o l s :=
  ⟨fun n hn => .inl (g.1 n hn), fun h => absurd h h1, fun h => (by rw [h2] at h; cases h), fun h => (by rw [h2] at h; cases h), fun _ => g.2⟩
set_option maxHeartbeats 4000000 in
theorem of_fin (hc : pre10 x.2.1) : Fin x (tree7 x) (GG x) := by
  unfold tree7
  refine fin_need pre15_ok ?_
  refine fin_ite (fun h => ?_) (fun h35 => ?_)
  · have hd := ieq_iff.1 h
    refine fin_jump ?_
    show Fin x (step7h0 x) (GG x)
    exact fin_imp c0 fun R W A i o l s g => gg_plain (by unfold stk; omega) (no9 (by omega)) (by unfold cnd; omega) g
  replace h35 := ieq_no.1 h35
  refine fin_ite (fun h => ?_) (fun h1 => ?_)
  · have hd := ieq_iff.1 h
    refine fin_jump ?_
    show Fin x (step7h1 x) (GG x)
    exact fin_imp c1 fun R W A i o l s g => gg_plain (by unfold stk; omega) (no9 (by omega)) (by unfold cnd; omega) g
  replace h1 := ieq_no.1 h1
  refine fin_ite (fun h => ?_) (fun h2 => ?_)
  · have hd := ieq_iff.1 h
    refine fin_jump ?_
    show Fin x (step7h2 x) (GG x)
    exact fin_imp c2 fun R W A i o l s g => gg_plain (by unfold stk; omega) (no9 (by omega)) (by unfold cnd; omega) g
  replace h2 := ieq_no.1 h2
  refine fin_ite (fun h => ?_) (fun h3 => ?_)
  · have hd := ieq_iff.1 h
    refine fin_jump ?_
    show Fin x (step7h3 x) (GG x)
    exact fin_imp (c3n (no9 (by omega))) fun R W A i o l s g => gg_plain (by unfold stk; omega) (no9 (by omega)) (by unfold cnd; omega) g
  replace h3 := ieq_no.1 h3
  refine fin_ite (fun h => ?_) (fun h4 => ?_)
  · have hd := ieq_iff.1 h
    refine fin_jump ?_
    show Fin x (step7h3 x) (GG x)
    exact fin_imp (c3n (no9 (by omega))) fun R W A i o l s g => gg_plain (by unfold stk; omega) (no9 (by omega)) (by unfold cnd; omega) g
  replace h4 := ieq_no.1 h4
  refine fin_ite (fun h => ?_) (fun h7 => ?_)
  · have hd := ieq_iff.1 h
    refine fin_jump ?_
    show Fin x (step7h3 x) (GG x)
    exact fin_imp (c3n (no9 (by omega))) fun R W A i o l s g => gg_plain (by unfold stk; omega) (no9 (by omega)) (by unfold cnd; omega) g
  replace h7 := ieq_no.1 h7
  refine fin_ite (fun h => ?_) (fun h8 => ?_)
  · have hd := ieq_iff.1 h
    refine fin_jump ?_
    show Fin x (step7h3 x) (GG x)
    exact by
      cases hn : fn9 x with
      | false => exact fin_imp (c3n hn) fun R W A i o l s g => gg_plain (by unfold stk; omega) hn (by unfold cnd; omega) g
      | true => exact fin_imp (c3y hn (ieq_iff.2 (nought_iff.1 hn).2.1)) fun R W A i o l s g => gg_nought (by unfold stk; omega) (by unfold cnd; omega) (nought_iff.1 hn).2.1 ⟨g.1, g.2.1, g.2.2.1, g.2.2.2.1⟩ (fun _ => g.2.2.2.2)
  replace h8 := ieq_no.1 h8
  refine fin_ite (fun h => ?_) (fun h9 => ?_)
  · have hd := ieq_iff.1 h
    refine fin_jump ?_
    show Fin x (step7h3 x) (GG x)
    exact by
      cases hn : fn9 x with
      | false => exact fin_imp (c3n hn) fun R W A i o l s g => gg_plain (by unfold stk; omega) hn (by unfold cnd; omega) g
      | true => exact fin_imp (c3y hn (ieq_iff.2 (nought_iff.1 hn).2.1)) fun R W A i o l s g => gg_nought (by unfold stk; omega) (by unfold cnd; omega) (nought_iff.1 hn).2.1 ⟨g.1, g.2.1, g.2.2.1, g.2.2.2.1⟩ (fun _ => g.2.2.2.2)
  replace h9 := ieq_no.1 h9
  refine fin_ite (fun h => ?_) (fun h21 => ?_)
  · have hd := ieq_iff.1 h
    refine fin_jump ?_
    show Fin x (step7h3 x) (GG x)
    exact fin_imp (c3n (no9 (by omega))) fun R W A i o l s g => gg_plain (by unfold stk; omega) (no9 (by omega)) (by unfold cnd; omega) g
  replace h21 := ieq_no.1 h21
  refine fin_ite (fun h => ?_) (fun h5 => ?_)
  · have hd := ieq_iff.1 h
    refine fin_jump ?_
    show Fin x (step7h4 x) (GG x)
    exact fin_imp c4 fun R W A i o l s g => gg_plain (by unfold stk; omega) (no9 (by omega)) (by unfold cnd; omega) g
  replace h5 := ieq_no.1 h5
  refine fin_ite (fun h => ?_) (fun h6 => ?_)
  · have hd := ieq_iff.1 h
    refine fin_jump ?_
    show Fin x (step7h4 x) (GG x)
    exact fin_imp c4 fun R W A i o l s g => gg_plain (by unfold stk; omega) (no9 (by omega)) (by unfold cnd; omega) g
  replace h6 := ieq_no.1 h6
  refine fin_ite (fun h => ?_) (fun h10 => ?_)
  · have hd := ieq_iff.1 h
    refine fin_jump ?_
    show Fin x (step7h5 x) (GG x)
    exact fin_imp c5 fun R W A i o l s g => gg_plain (by unfold stk; omega) (no9 (by omega)) (by unfold cnd; omega) g
  replace h10 := ieq_no.1 h10
  refine fin_ite (fun h => ?_) (fun h11 => ?_)
  · have hd := ieq_iff.1 h
    refine fin_jump ?_
    show Fin x (step7h5 x) (GG x)
    exact fin_imp c5 fun R W A i o l s g => gg_plain (by unfold stk; omega) (no9 (by omega)) (by unfold cnd; omega) g
  replace h11 := ieq_no.1 h11
  refine fin_ite (fun h => ?_) (fun h12 => ?_)
  · have hd := ieq_iff.1 h
    refine fin_jump ?_
    show Fin x (step7h6 x) (GG x)
    exact fin_imp c6 fun R W A i o l s g => gg_plain (by unfold stk; omega) (no9 (by omega)) (by unfold cnd; omega) g
  replace h12 := ieq_no.1 h12
  refine fin_ite (fun h => ?_) (fun h13 => ?_)
  · have hd := ieq_iff.1 h
    refine fin_jump ?_
    show Fin x (step7h6 x) (GG x)
    exact fin_imp c6 fun R W A i o l s g => gg_plain (by unfold stk; omega) (no9 (by omega)) (by unfold cnd; omega) g
  replace h13 := ieq_no.1 h13
  refine fin_ite (fun h => ?_) (fun h14 => ?_)
  · have hd := ieq_iff.1 h
    refine fin_jump ?_
    show Fin x (step7h7 x) (GG x)
    exact fin_imp c7 fun R W A i o l s g => gg_plain (by unfold stk; omega) (no9 (by omega)) (by unfold cnd; omega) g
  replace h14 := ieq_no.1 h14
  refine fin_ite (fun h => ?_) (fun h15 => ?_)
  · have hd := ieq_iff.1 h
    refine fin_jump ?_
    show Fin x (step7h8 x) (GG x)
    exact fin_imp c8 fun R W A i o l s g => gg_plain (by unfold stk; omega) (no9 (by omega)) (by unfold cnd; omega) g
  replace h15 := ieq_no.1 h15
  refine fin_ite (fun h => ?_) (fun h16 => ?_)
  · have hd := ieq_iff.1 h
    refine fin_jump ?_
    show Fin x (step7h9 x) (GG x)
    exact fin_imp c9 fun R W A i o l s g => gg_plain (by unfold stk; omega) (no9 (by omega)) (by unfold cnd; omega) g
  replace h16 := ieq_no.1 h16
  refine fin_ite (fun h => ?_) (fun h17 => ?_)
  · have hd := ieq_iff.1 h
    refine fin_jump ?_
    show Fin x (step7h9 x) (GG x)
    exact fin_imp c9 fun R W A i o l s g => gg_plain (by unfold stk; omega) (no9 (by omega)) (by unfold cnd; omega) g
  replace h17 := ieq_no.1 h17
  refine fin_ite (fun h => ?_) (fun h18 => ?_)
  · have hd := ieq_iff.1 h
    refine fin_jump ?_
    show Fin x (step7h9 x) (GG x)
    exact fin_imp c9 fun R W A i o l s g => gg_plain (by unfold stk; omega) (no9 (by omega)) (by unfold cnd; omega) g
  replace h18 := ieq_no.1 h18
  refine fin_ite (fun h => ?_) (fun h19 => ?_)
  · have hd := ieq_iff.1 h
    refine fin_jump ?_
    show Fin x (step7h10 x) (GG x)
    exact fin_imp c10 fun R W A i o l s g => gg_plain (by unfold stk; omega) (no9 (by omega)) (by unfold cnd; omega) g
  replace h19 := ieq_no.1 h19
  refine fin_ite (fun h => ?_) (fun h20 => ?_)
  · have hd := ieq_iff.1 h
    refine fin_jump ?_
    show Fin x (step7h10 x) (GG x)
    exact fin_imp c10 fun R W A i o l s g => gg_plain (by unfold stk; omega) (no9 (by omega)) (by unfold cnd; omega) g
  replace h20 := ieq_no.1 h20
  refine fin_ite (fun h => ?_) (fun h22 => ?_)
  · have hd := ieq_iff.1 h
    refine fin_jump ?_
    show Fin x (step7h11 x) (GG x)
    exact fin_imp c11 fun R W A i o l s g => gg_mul (by omega) (no9 (by omega)) g
  replace h22 := ieq_no.1 h22
  refine fin_ite (fun h => ?_) (fun h23 => ?_)
  · have hd := ieq_iff.1 h
    refine fin_jump ?_
    show Fin x (step7h12 x) (GG x)
    exact fin_imp c12 fun R W A i o l s g => gg_mul (by omega) (no9 (by omega)) g
  replace h23 := ieq_no.1 h23
  refine fin_ite (fun h => ?_) (fun h24 => ?_)
  · have hd := ieq_iff.1 h
    refine fin_jump ?_
    show Fin x (step7h13 x) (GG x)
    exact fin_imp c13 fun R W A i o l s g => gg_stack (by unfold stk; omega) (no9 (by omega)) g
  replace h24 := ieq_no.1 h24
  refine fin_ite (fun h => ?_) (fun h25 => ?_)
  · have hd := ieq_iff.1 h
    refine fin_jump ?_
    show Fin x (step7h14 x) (GG x)
    exact fin_imp c14 fun R W A i o l s g => gg_pop (by unfold stk; omega) (no9 (by omega)) g
  replace h25 := ieq_no.1 h25
  refine fin_ite (fun h => ?_) (fun h26 => ?_)
  · have hd := ieq_iff.1 h
    refine fin_jump ?_
    show Fin x (step7h15 x) (GG x)
    exact fin_imp c15 fun R W A i o l s g => gg_stack (by unfold stk; omega) (no9 (by omega)) g
  replace h26 := ieq_no.1 h26
  refine fin_ite (fun h => ?_) (fun h27 => ?_)
  · have hd := ieq_iff.1 h
    refine fin_jump ?_
    show Fin x (step7h16 x) (GG x)
    exact fin_imp c16 fun R W A i o l s g => gg_stack (by unfold stk; omega) (no9 (by omega)) g
  replace h27 := ieq_no.1 h27
  refine fin_ite (fun h => ?_) (fun h28 => ?_)
  · have hd := ieq_iff.1 h
    refine fin_jump ?_
    show Fin x (step7h17 x) (GG x)
    exact fin_imp c17 fun R W A i o l s g => gg_plain (by unfold stk; omega) (no9 (by omega)) (by unfold cnd; omega) g
  replace h28 := ieq_no.1 h28
  refine fin_ite (fun h => ?_) (fun h29 => ?_)
  · have hd := ieq_iff.1 h
    refine fin_jump ?_
    show Fin x (step7h18 x) (GG x)
    exact fin_imp (c18 hc) fun R W A i o l s g => gg_cond (by unfold stk; omega) (no9 (by omega)) g
  replace h29 := ieq_no.1 h29
  refine fin_ite (fun h => ?_) (fun h30 => ?_)
  · have hd := ieq_iff.1 h
    refine fin_jump ?_
    show Fin x (step7h19 x) (GG x)
    exact fin_imp (c19 hc) fun R W A i o l s g => gg_cond (by unfold stk; omega) (no9 (by omega)) g
  replace h30 := ieq_no.1 h30
  refine fin_ite (fun h => ?_) (fun h31 => ?_)
  · have hd := ieq_iff.1 h
    refine fin_jump ?_
    show Fin x (step7h20 x) (GG x)
    exact fin_imp (c20 hc) fun R W A i o l s g => gg_cond (by unfold stk; omega) (no9 (by omega)) g
  replace h31 := ieq_no.1 h31
  refine fin_ite (fun h => ?_) (fun h32 => ?_)
  · have hd := ieq_iff.1 h
    refine fin_jump ?_
    show Fin x (step7h21 x) (GG x)
    exact fin_imp c21 fun R W A i o l s g => gg_plain (by unfold stk; omega) (no9 (by omega)) (by unfold cnd; omega) g
  replace h32 := ieq_no.1 h32
  refine fin_ite (fun h => ?_) (fun h33 => ?_)
  · have hd := ieq_iff.1 h
    refine fin_jump ?_
    show Fin x (step7h21 x) (GG x)
    exact fin_imp c21 fun R W A i o l s g => gg_plain (by unfold stk; omega) (no9 (by omega)) (by unfold cnd; omega) g
  replace h33 := ieq_no.1 h33
  refine fin_ite (fun h => ?_) (fun h36 => ?_)
  · have hd := ieq_iff.1 h
    refine fin_jump ?_
    show Fin x (step7h22 x) (GG x)
    exact by
      cases hn : fn9 x with
      | false => exact fin_imp (c22n hn) fun R W A i o l s g => gg_plain (by unfold stk; omega) hn (by unfold cnd; omega) g
      | true => exact fin_imp (c22y hn (ieq_iff.2 (nought_iff.1 hn).2.1)) fun R W A i o l s g => gg_nought (by unfold stk; omega) (by unfold cnd; omega) (nought_iff.1 hn).2.1 g (fun _ => absurd ‹x.1 = 9› (by omega))
  replace h36 := ieq_no.1 h36
  refine fin_ite (fun h => ?_) (fun h37 => ?_)
  · have hd := ieq_iff.1 h
    refine fin_jump ?_
    show Fin x (step7h22 x) (GG x)
    exact fin_imp (c22n (no9 (by omega))) fun R W A i o l s g => gg_plain (by unfold stk; omega) (no9 (by omega)) (by unfold cnd; omega) g
  replace h37 := ieq_no.1 h37
  refine fin_ite (fun h => ?_) (fun h38 => ?_)
  · have hd := ieq_iff.1 h
    refine fin_jump ?_
    show Fin x (step7h22 x) (GG x)
    exact fin_imp (c22n (no9 (by omega))) fun R W A i o l s g => gg_plain (by unfold stk; omega) (no9 (by omega)) (by unfold cnd; omega) g
  replace h38 := ieq_no.1 h38
  refine fin_ite (fun h => ?_) (fun h39 => ?_)
  · have hd := ieq_iff.1 h
    refine fin_jump ?_
    show Fin x (step7h22 x) (GG x)
    exact fin_imp (c22n (no9 (by omega))) fun R W A i o l s g => gg_plain (by unfold stk; omega) (no9 (by omega)) (by unfold cnd; omega) g
  replace h39 := ieq_no.1 h39
  refine fin_23 ⟨g_nil, fun h => ?_, fun h => ?_, fun h => ?_, fun h => ?_⟩
  · unfold stk at h; omega
  · have := (nought_iff.1 h).1; omega
  · have := (nought_iff.1 h).1; omega
  · unfold cnd at h; omega
theorem of_ok (x : DInsn) (hc : pre10 x.2.1) : pre7 x ∧ ∃ R W A i o l s, fn7 x = fin7 x R W A i o l s ∧ (R.length ≤ 1000 ∧ W.length ≤ 1000 ∧ A.length ≤ 1000) ∧ GG x R W A i o l s := by
  obtain ⟨R, W, A, i, o, l, s, h, hl, g⟩ := of_fin hc
  exact ⟨⟨_, h⟩, R, W, A, i, o, l, s, endVal_eq h, hl, g⟩
end Go.Eng.RU
end
section
/- Functions of this program, written out. -/
namespace Go.Eng.RU
open Go.Proofs Go.Eng
set_option maxRecDepth 100000

/-! ### sundial/facts.Targets -/
noncomputable def tree14 (x : (DInsn × Int)) : Tr (List Int) :=
  let y0 : Int := x.1.1
  .ite (ieq y0 27) (
  .ret ([] : List Int)) (
  let y1 : Bool := ((ieq y0 28) == false)
  .ite y1 (
  let y2 : Bool := (ieq y0 26)
  .ite (y2 == true) (
  let y3 : (DOperand × (Int × Int)) := x.1.2.2.2.2
  let y4 : DOperand := y3.1
  let y5 : Bool := (ine y4.1 3)
  .ite y5 (
  .ret ([] : List Int)) (
  .ite y1 (
  .ite y2 (
  .need ((0 : Nat) < 1) <|
  .need (((0 : Nat) + 1 : Nat) ≤ 1) <|
  let y6 : Int := (iadd .u64 x.2 (iconv .u64 y3.2.2))
  let y7 : Int := (iadd .u64 y6 (iconv .u64 y4.2.2.2.2.2.2.2))
  let y8 : (List Int) := [y7]
  .ret y8) (
  let y9 : Bool := (ieq y0 29)
  .ite y9 (
  .need ((0 : Nat) < 2) <|
  .need ((1 : Nat) < 2) <|
  .need (((0 : Nat) + 2 : Nat) ≤ 2) <|
  let y10 : Int := (iadd .u64 x.2 (iconv .u64 y3.2.2))
  let y11 : Int := (iadd .u64 y10 (iconv .u64 y4.2.2.2.2.2.2.2))
  let y12 : (List Int) := [y10, y11]
  .ret y12) (
  .need ((0 : Nat) < 1) <|
  .need (((0 : Nat) + 1 : Nat) ≤ 1) <|
  let y13 : Int := (iadd .u64 x.2 (iconv .u64 y3.2.2))
  let y14 : (List Int) := [y13]
  .ret y14))) (
  .need ((0 : Nat) < 1) <|
  .need (((0 : Nat) + 1 : Nat) ≤ 1) <|
  let y15 : Int := (iadd .u64 x.2 (iconv .u64 y3.2.2))
  let y16 : Int := (iadd .u64 y15 (iconv .u64 y4.2.2.2.2.2.2.2))
  let y17 : (List Int) := [y16]
  .ret y17))) (
  .ite y1 (
  .ite y2 (
  .need ((0 : Nat) < 1) <|
  .need (((0 : Nat) + 1 : Nat) ≤ 1) <|
  let y18 : (DOperand × (Int × Int)) := x.1.2.2.2.2
  let y19 : Int := (iadd .u64 x.2 (iconv .u64 y18.2.2))
  let y20 : DOperand := y18.1
  let y21 : Int := (iadd .u64 y19 (iconv .u64 y20.2.2.2.2.2.2.2))
  let y22 : (List Int) := [y21]
  .ret y22) (
  let y23 : Bool := (ieq y0 29)
  .ite y23 (
  .need ((0 : Nat) < 2) <|
  .need ((1 : Nat) < 2) <|
  .need (((0 : Nat) + 2 : Nat) ≤ 2) <|
  let y24 : (DOperand × (Int × Int)) := x.1.2.2.2.2
  let y25 : Int := (iadd .u64 x.2 (iconv .u64 y24.2.2))
  let y26 : DOperand := y24.1
  let y27 : Int := (iadd .u64 y25 (iconv .u64 y26.2.2.2.2.2.2.2))
  let y28 : (List Int) := [y25, y27]
  .ret y28) (
  .need ((0 : Nat) < 1) <|
  .need (((0 : Nat) + 1 : Nat) ≤ 1) <|
  let y29 : (DOperand × (Int × Int)) := x.1.2.2.2.2
  let y30 : Int := (iadd .u64 x.2 (iconv .u64 y29.2.2))
  let y31 : (List Int) := [y30]
  .ret y31))) (
  .need ((0 : Nat) < 1) <|
  .need (((0 : Nat) + 1 : Nat) ≤ 1) <|
  let y32 : (DOperand × (Int × Int)) := x.1.2.2.2.2
  let y33 : Int := (iadd .u64 x.2 (iconv .u64 y32.2.2))
  let y34 : DOperand := y32.1
  let y35 : Int := (iadd .u64 y33 (iconv .u64 y34.2.2.2.2.2.2.2))
  let y36 : (List Int) := [y35]
  .ret y36))) (
  let y37 : (DOperand × (Int × Int)) := x.1.2.2.2.2
  let y38 : DOperand := y37.1
  let y39 : Bool := (ine y38.1 3)
  .ite y39 (
  .ret ([] : List Int)) (
  .ite y1 (
  let y40 : Bool := (ieq y0 26)
  .ite y40 (
  .need ((0 : Nat) < 1) <|
  .need (((0 : Nat) + 1 : Nat) ≤ 1) <|
  let y41 : Int := (iadd .u64 x.2 (iconv .u64 y37.2.2))
  let y42 : Int := (iadd .u64 y41 (iconv .u64 y38.2.2.2.2.2.2.2))
  let y43 : (List Int) := [y42]
  .ret y43) (
  let y44 : Bool := (ieq y0 29)
  .ite y44 (
  .need ((0 : Nat) < 2) <|
  .need ((1 : Nat) < 2) <|
  .need (((0 : Nat) + 2 : Nat) ≤ 2) <|
  let y45 : Int := (iadd .u64 x.2 (iconv .u64 y37.2.2))
  let y46 : Int := (iadd .u64 y45 (iconv .u64 y38.2.2.2.2.2.2.2))
  let y47 : (List Int) := [y45, y46]
  .ret y47) (
  .need ((0 : Nat) < 1) <|
  .need (((0 : Nat) + 1 : Nat) ≤ 1) <|
  let y48 : Int := (iadd .u64 x.2 (iconv .u64 y37.2.2))
  let y49 : (List Int) := [y48]
  .ret y49))) (
  .need ((0 : Nat) < 1) <|
  .need (((0 : Nat) + 1 : Nat) ≤ 1) <|
  let y50 : Int := (iadd .u64 x.2 (iconv .u64 y37.2.2))
  let y51 : Int := (iadd .u64 y50 (iconv .u64 y38.2.2.2.2.2.2.2))
  let y52 : (List Int) := [y51]
  .ret y52))))
noncomputable def fn14 (x : (DInsn × Int)) : (List Int) := (tree14 x).val
def pre14 (x : (DInsn × Int)) : Prop := (tree14 x).ok
noncomputable def spec14 : Spec := { dom := (.st CInsn (.st1 (.int .u64))), cod := (.slice (.int .u64)), n := 1, pre := pre14, f := fn14 }
noncomputable def need14 : FuncId → Option Spec
  | _ => none
theorem need14_ok : ∀ f sp, need14 f = some sp → SpecOk env0 f sp := by
  intro f sp h
  unfold need14 at h
  split at h
  · cases h
theorem run14 (W : Cfg) (Q : (List Int) → Prop) (x : (DInsn × Int)) : run (env need14 (fun _ _ => none)) (fun _ _ _ => none) (finS spec14 Q) W 100000 (startFr 14 Tryd.f14 (bodyOf Tryd.f14) (argsOf (.st CInsn (.st1 (.int .u64))) x)) [] [] = (tree14 x).wp Q := by kernel_rfl
theorem ok14 : SpecOk env0 14 spec14 := SpecOk.env rfl (fun _ _ h => h) (spec_of_tree (E := (env need14 (fun _ _ => none))) (sp := spec14) (valid _ _) (fun f sp h => SpecOk.env rfl (fun _ _ h => h) (need14_ok f sp h)) (fn := Tryd.f14) (c := (bodyOf Tryd.f14)) (by kernel_rfl) (by kernel_rfl) tree14 run14 (fun _ h => Tr.gives_val h))

/-! ### sundial/sundiallaw11.wakes -/
noncomputable def tree6 (_x : Unit) : Tr Bool :=
  .need (pre13 0) <|
  .need (pre13 0) <|
  let y0 : (Int × (Int × (Int × (DOperand × (DOperand × (Int × Int)))))) := (9, (0, (8, ((fn13 0), ((fn13 0), (0, 3))))))
  .need (pre7 y0) <|
  .need (pre13 3) <|
  let y1 : (Int × (Int × (Int × (DOperand × ((Int × (Int × (Int × (Int × (Int × (Int × (Bool × Int))))))) × (Int × Int)))))) := (24, (0, (8, ((fn13 3), ((0, (0, (0, (0, (0, (0, (false, 0))))))), (0, 1))))))
  .need (pre7 y1) <|
  let y2 : ((Int × (Int × (Int × (DOperand × (DOperand × (Int × Int)))))) × Int) := (y0, 7)
  .need (pre14 y2) <|
  .need (pre9 y0) <|
  .ite ((fn9 y0) == true) (
  let y3 : DFacts := (fn7 y0)
  .ite ((ieq (y3.1.length : Int) 0) == true) (
  let y4 : ((List Int) × ((List Int) × (Int × (Int × (Int × (Int × Bool)))))) := y3.2
  let y5 : (List Int) := y4.1
  .ite ((ieq (y5.length : Int) 1) == true) (
  .need ((0 : Int) ≤ 0) <|
  .need (0 < (y5.length : Int)) <|
  .ite ((ieq (rdc (.int .i64) y5 0) 0) == true) (
  .ite ((ieq y4.2.2.2.1 31) == true) (
  let y6 : DFacts := (fn7 y1)
  .ite ((ieq (y6.1.length : Int) 2) == true) (
  let y7 : (Int × Bool) := y6.2.2.2.2.2.2
  .ite ((ieq y7.1 8) == true) (
  .ite ((!y7.2) == true) (
  let y8 : (List Int) := (fn14 y2)
  .ite ((ieq (y8.length : Int) 1) == true) (
  .need ((0 : Int) ≤ 0) <|
  .need (0 < (y8.length : Int)) <|
  .ite ((ieq (rdc (.int .u64) y8 0) 10) == true) (
  .need (pre10 4) <|
  .ret (ieq (fn10 4) 2)) (
  .ret false)) (
  .ret false)) (
  .ret false)) (
  .ret false)) (
  .ret false)) (
  .ret false)) (
  .ret false)) (
  .ret false)) (
  .ret false)) (
  .ret false)
noncomputable def fn6 (x : Unit) : Bool := (tree6 x).val
def pre6 (x : Unit) : Prop := (tree6 x).ok
noncomputable def spec6 : Spec := { dom := .unit, cod := .bool, n := 1, pre := pre6, f := fn6 }
noncomputable def need6 : FuncId → Option Spec
  | 7 => some spec7
  | 9 => some spec9
  | 10 => some spec10
  | 13 => some spec13
  | 14 => some spec14
  | _ => none
theorem need6_ok : ∀ f sp, need6 f = some sp → SpecOk env0 f sp := by
  intro f sp h
  unfold need6 at h
  split at h
  · cases h; exact ok7
  · cases h; exact ok9
  · cases h; exact ok10
  · cases h; exact ok13
  · cases h; exact ok14
  · cases h
theorem run6 (W : Cfg) (Q : Bool → Prop) (x : Unit) : run (env need6 (fun _ _ => none)) (fun _ _ _ => none) (finS spec6 Q) W 100000 (startFr 6 Tryd.f6 (bodyOf Tryd.f6) (argsOf .unit x)) [] [] = (tree6 x).wp Q := by kernel_rfl
theorem ok6 : SpecOk env0 6 spec6 := SpecOk.env rfl (fun _ _ h => h) (spec_of_tree (E := (env need6 (fun _ _ => none))) (sp := spec6) (valid _ _) (fun f sp h => SpecOk.env rfl (fun _ _ h => h) (need6_ok f sp h)) (fn := Tryd.f6) (c := (bodyOf Tryd.f6)) (by kernel_rfl) (by kernel_rfl) tree6 run6 (fun _ h => Tr.gives_val h))

/-! ### sundial/sundiallaw11.has -/
inductive J8 where
  | h0 (v2 : Int)
noncomputable def tree8 (_x : ((List Int) × Int)) : Tr (J8 ⊕ Bool) :=
  .ret (.inl (.h0 0))
noncomputable def step8 (x : ((List Int) × Int)) : J8 → Tr (J8 ⊕ Bool)
  | .h0 v2 =>
  .ite (ilt v2 (x.1.length : Int)) (
  .need ((0 : Int) ≤ v2) <|
  .need (v2 < (x.1.length : Int)) <|
  .ite (ieq (rdc (.int .i64) x.1 (v2).toNat) x.2) (
  .ret (.inr true)) (
  .ret (.inl (.h0 (iadd .i64 v2 1))))) (
  .ret (.inr false))
noncomputable def head8 (x : ((List Int) × Int)) : J8 → Head
  | .h0 v2 =>
  { fr := { id := 8, kind := .top, T := [(.fsl (.int .i64) x.1), (.int .i64 x.2), .any, .any, .any, (.int .i64 v2)] ++ List.replicate 12 .any, items := [.lp (subc [1, 0, 1, 0, 0] (bodyOf Tryd.f8)), .blk 0, .code (subc [1, 1] (bodyOf Tryd.f8))], D := [], base := 0 },
    stk := [],
    H := [] }
noncomputable def stop8 : FuncId → Nat → Nat → Option Cut
  | 8, 0, 0 => some { tmps := [0, 1, 5], loops := [], dead := [], stk := [] }
  | _, _, _ => none
noncomputable def fn8 (x : ((List Int) × Int)) : Bool := endVal (TC.dflt .bool) (step8 x) (tree8 x)
def pre8 (x : ((List Int) × Int)) : Prop := ∃ r, Ends (step8 x) r (tree8 x)
noncomputable def spec8 : Spec := { dom := (.st (.slice (.int .i64)) (.st1 (.int .i64))), cod := .bool, n := 1, pre := pre8, f := fn8 }
noncomputable def need8 : FuncId → Option Spec
  | _ => none
theorem need8_ok : ∀ f sp, need8 f = some sp → SpecOk env0 f sp := by
  intro f sp h
  unfold need8 at h
  split at h
  · cases h
theorem run8 (W : Cfg) (Q : Bool → Prop) (x : ((List Int) × Int)) : run (env need8 (fun _ _ => none)) stop8 (finS spec8 Q) W 100000 (startFr 8 Tryd.f8 (bodyOf Tryd.f8) (argsOf (.st (.slice (.int .i64)) (.st1 (.int .i64))) x)) [] [] = (tree8 x).wp (kont W Q (head8 x)) := by kernel_rfl
theorem run8h0 (W : Cfg) (Q : Bool → Prop) (x : ((List Int) × Int)) (v2 : Int) : run (env need8 (fun _ _ => none)) stop8 (finS spec8 Q) W 100000 (head8 x (.h0 v2)).fr.enter (head8 x (.h0 v2)).stk (head8 x (.h0 v2)).H = (step8 x (.h0 v2)).wp (kont W Q (head8 x)) := by kernel_rfl
theorem runs8 (W : Cfg) (Q : Bool → Prop) (x : ((List Int) × Int)) : ∀ j : J8, run (env need8 (fun _ _ => none)) stop8 (finS spec8 Q) W 100000 (head8 x j).fr.enter (head8 x j).stk (head8 x j).H = (step8 x j).wp (kont W Q (head8 x))
  | .h0 v2 => run8h0 W Q x v2
theorem ok8 : SpecOk env0 8 spec8 := SpecOk.env rfl (fun _ _ h => h) (spec_of_trees (E := (env need8 (fun _ _ => none))) (sp := spec8) (valid _ _) (fun f sp h => SpecOk.env rfl (fun _ _ h => h) (need8_ok f sp h)) (fn := Tryd.f8) (c := (bodyOf Tryd.f8)) (by kernel_rfl) (by kernel_rfl) tree8 step8 head8 run8 runs8 (fun _ h => endVal_ends h))

/-! ### sundial/sundiallaw11.FactsStack -/
inductive J3 where
  | h0
  | h1 (v0 : Bool) (v22 : DFacts)
  | h2 (v0 : Bool) (v22 : DFacts)
  | h3 (v0 : Bool) (v1 : Int) (v23 : DFacts)
  | h4 (v0 : Bool) (v1 : Int) (v23 : DFacts)
  | h5
  | h6 (v0 : Bool) (v1 : Int) (v23 : DFacts)
noncomputable def tree3 (x : DInsn) : Tr (J3 ⊕ Bool) :=
  .need (pre5 x) <|
  .ite (!(fn5 x)) (
  .need (pre6 ()) <|
  .ret (.inr (fn6 ()))) (
  .ret (.inl (.h0)))
noncomputable def step3 (x : DInsn) : J3 → Tr (J3 ⊕ Bool)
  | .h0 =>
  .need (pre7 x) <|
  .ite ((ieq x.1 24) == false) (
  .ite ((ieq x.1 25) == false) (
  .ite ((ieq x.1 26) == false) (
  let y0 : DOperand := x.2.2.2.1
  let y1 : Bool := ((ieq y0.1 1) == true)
  .ite y1 (
  let y2 : ((List Int) × ((List Int) × (Int × (Int × (Int × (Int × Bool)))))) := (fn7 x).2
  let y3 : ((List Int) × Int) := (y2.1, 4)
  .need (pre8 y3) <|
  let y4 : Bool := (fn8 y3)
  let y5 : Bool := (y4 == true)
  .ite y5 (
  let y6 : Bool := (ieq x.1 27)
  let y7 : Bool := ((!y6) == true)
  .ite y7 (
  .ite ((!(ieq y0.2.1 4)) == false) (
  let y8 : Bool := (y6 == true)
  .ite y8 (
  .need (pre8 y3) <|
  let y9 : Bool := ((!y4) == false)
  .ite y9 (
  .ite y8 (
  let y10 : ((List Int) × Int) := (y2.2.1, 4)
  .need (pre8 y10) <|
  let y11 : Bool := (!(fn8 y10))
  .ite y11 (
  .ret (.inr false)) (
  .ret (.inl (.h1 y6 (fn7 x))))) (
  .ret (.inl (.h1 y6 (fn7 x))))) (
  .ret (.inr false))) (
  .ite y8 (
  let y12 : ((List Int) × Int) := (y2.2.1, 4)
  .need (pre8 y12) <|
  let y13 : Bool := (!(fn8 y12))
  .ite y13 (
  .ret (.inr false)) (
  .ret (.inl (.h1 y6 (fn7 x))))) (
  .ret (.inl (.h1 y6 (fn7 x)))))) (
  .ret (.inr false))) (
  let y14 : Bool := (y6 == true)
  .ite y14 (
  .need (pre8 y3) <|
  let y15 : Bool := ((!y4) == false)
  .ite y15 (
  .ite y14 (
  let y16 : ((List Int) × Int) := (y2.2.1, 4)
  .need (pre8 y16) <|
  let y17 : Bool := (!(fn8 y16))
  .ite y17 (
  .ret (.inr false)) (
  .ret (.inl (.h1 y6 (fn7 x))))) (
  .ret (.inl (.h1 y6 (fn7 x))))) (
  .ret (.inr false))) (
  .ite y14 (
  let y18 : ((List Int) × Int) := (y2.2.1, 4)
  .need (pre8 y18) <|
  let y19 : Bool := (!(fn8 y18))
  .ite y19 (
  .ret (.inr false)) (
  .ret (.inl (.h1 y6 (fn7 x))))) (
  .ret (.inl (.h1 y6 (fn7 x))))))) (
  let y20 : Bool := (ieq x.1 27)
  let y21 : Bool := (y20 == true)
  .ite y21 (
  .need (pre8 y3) <|
  let y22 : Bool := ((!y4) == false)
  .ite y22 (
  .ite y21 (
  let y23 : ((List Int) × Int) := (y2.2.1, 4)
  .need (pre8 y23) <|
  let y24 : Bool := (!(fn8 y23))
  .ite y24 (
  .ret (.inr false)) (
  .ret (.inl (.h1 y20 (fn7 x))))) (
  .ret (.inl (.h1 y20 (fn7 x))))) (
  .ret (.inr false))) (
  .ite y21 (
  let y25 : ((List Int) × Int) := (y2.2.1, 4)
  .need (pre8 y25) <|
  let y26 : Bool := (!(fn8 y25))
  .ite y26 (
  .ret (.inr false)) (
  .ret (.inl (.h1 y20 (fn7 x))))) (
  .ret (.inl (.h1 y20 (fn7 x))))))) (
  let y27 : ((List Int) × ((List Int) × (Int × (Int × (Int × (Int × Bool)))))) := (fn7 x).2
  let y28 : ((List Int) × Int) := (y27.1, 4)
  .need (pre8 y28) <|
  let y29 : Bool := (fn8 y28)
  let y30 : Bool := (y29 == true)
  .ite y30 (
  let y31 : Bool := (ieq x.1 27)
  let y32 : Bool := ((!y31) == true)
  .ite y32 (
  .ret (.inr false)) (
  let y33 : Bool := (y31 == true)
  .ite y33 (
  .need (pre8 y28) <|
  let y34 : Bool := ((!y29) == false)
  .ite y34 (
  .ite y33 (
  let y35 : ((List Int) × Int) := (y27.2.1, 4)
  .need (pre8 y35) <|
  let y36 : Bool := (!(fn8 y35))
  .ite y36 (
  .ret (.inr false)) (
  .ret (.inl (.h1 y31 (fn7 x))))) (
  .ret (.inl (.h1 y31 (fn7 x))))) (
  .ret (.inr false))) (
  .ite y33 (
  let y37 : ((List Int) × Int) := (y27.2.1, 4)
  .need (pre8 y37) <|
  let y38 : Bool := (!(fn8 y37))
  .ite y38 (
  .ret (.inr false)) (
  .ret (.inl (.h1 y31 (fn7 x))))) (
  .ret (.inl (.h1 y31 (fn7 x))))))) (
  let y39 : Bool := (ieq x.1 27)
  let y40 : Bool := (y39 == true)
  .ite y40 (
  .need (pre8 y28) <|
  let y41 : Bool := ((!y29) == false)
  .ite y41 (
  .ite y40 (
  let y42 : ((List Int) × Int) := (y27.2.1, 4)
  .need (pre8 y42) <|
  let y43 : Bool := (!(fn8 y42))
  .ite y43 (
  .ret (.inr false)) (
  .ret (.inl (.h1 y39 (fn7 x))))) (
  .ret (.inl (.h1 y39 (fn7 x))))) (
  .ret (.inr false))) (
  .ite y40 (
  let y44 : ((List Int) × Int) := (y27.2.1, 4)
  .need (pre8 y44) <|
  let y45 : Bool := (!(fn8 y44))
  .ite y45 (
  .ret (.inr false)) (
  .ret (.inl (.h1 y39 (fn7 x))))) (
  .ret (.inl (.h1 y39 (fn7 x)))))))) (
  let y46 : DOperand := x.2.2.2.1
  let y47 : Bool := ((ieq y46.1 1) == true)
  .ite y47 (
  let y48 : ((List Int) × ((List Int) × (Int × (Int × (Int × (Int × Bool)))))) := (fn7 x).2
  let y49 : ((List Int) × Int) := (y48.1, 4)
  .need (pre8 y49) <|
  let y50 : Bool := (fn8 y49)
  let y51 : Bool := (y50 == true)
  .ite y51 (
  .need (pre8 y49) <|
  let y52 : Bool := ((!y50) == false)
  .ite y52 (
  let y53 : ((List Int) × Int) := (y48.2.1, 4)
  .need (pre8 y53) <|
  let y54 : Bool := (!(fn8 y53))
  .ite y54 (
  .ret (.inr false)) (
  .ret (.inl (.h1 true (fn7 x))))) (
  .ret (.inr false))) (
  .need (pre8 y49) <|
  let y55 : Bool := ((!y50) == false)
  .ite y55 (
  let y56 : ((List Int) × Int) := (y48.2.1, 4)
  .need (pre8 y56) <|
  let y57 : Bool := (!(fn8 y56))
  .ite y57 (
  .ret (.inr false)) (
  .ret (.inl (.h1 true (fn7 x))))) (
  .ret (.inr false)))) (
  let y58 : ((List Int) × ((List Int) × (Int × (Int × (Int × (Int × Bool)))))) := (fn7 x).2
  let y59 : ((List Int) × Int) := (y58.1, 4)
  .need (pre8 y59) <|
  let y60 : Bool := (fn8 y59)
  let y61 : Bool := (y60 == true)
  .ite y61 (
  .need (pre8 y59) <|
  let y62 : Bool := ((!y60) == false)
  .ite y62 (
  let y63 : ((List Int) × Int) := (y58.2.1, 4)
  .need (pre8 y63) <|
  let y64 : Bool := (!(fn8 y63))
  .ite y64 (
  .ret (.inr false)) (
  .ret (.inl (.h1 true (fn7 x))))) (
  .ret (.inr false))) (
  .need (pre8 y59) <|
  let y65 : Bool := ((!y60) == false)
  .ite y65 (
  let y66 : ((List Int) × Int) := (y58.2.1, 4)
  .need (pre8 y66) <|
  let y67 : Bool := (!(fn8 y66))
  .ite y67 (
  .ret (.inr false)) (
  .ret (.inl (.h1 true (fn7 x))))) (
  .ret (.inr false)))))) (
  let y68 : DOperand := x.2.2.2.1
  let y69 : Bool := ((ieq y68.1 1) == true)
  .ite y69 (
  let y70 : ((List Int) × ((List Int) × (Int × (Int × (Int × (Int × Bool)))))) := (fn7 x).2
  let y71 : ((List Int) × Int) := (y70.1, 4)
  .need (pre8 y71) <|
  let y72 : Bool := (fn8 y71)
  let y73 : Bool := (y72 == true)
  .ite y73 (
  .need (pre8 y71) <|
  let y74 : Bool := ((!y72) == false)
  .ite y74 (
  let y75 : ((List Int) × Int) := (y70.2.1, 4)
  .need (pre8 y75) <|
  let y76 : Bool := (!(fn8 y75))
  .ite y76 (
  .ret (.inr false)) (
  .ret (.inl (.h1 true (fn7 x))))) (
  .ret (.inr false))) (
  .need (pre8 y71) <|
  let y77 : Bool := ((!y72) == false)
  .ite y77 (
  let y78 : ((List Int) × Int) := (y70.2.1, 4)
  .need (pre8 y78) <|
  let y79 : Bool := (!(fn8 y78))
  .ite y79 (
  .ret (.inr false)) (
  .ret (.inl (.h1 true (fn7 x))))) (
  .ret (.inr false)))) (
  let y80 : ((List Int) × ((List Int) × (Int × (Int × (Int × (Int × Bool)))))) := (fn7 x).2
  let y81 : ((List Int) × Int) := (y80.1, 4)
  .need (pre8 y81) <|
  let y82 : Bool := (fn8 y81)
  let y83 : Bool := (y82 == true)
  .ite y83 (
  .need (pre8 y81) <|
  let y84 : Bool := ((!y82) == false)
  .ite y84 (
  let y85 : ((List Int) × Int) := (y80.2.1, 4)
  .need (pre8 y85) <|
  let y86 : Bool := (!(fn8 y85))
  .ite y86 (
  .ret (.inr false)) (
  .ret (.inl (.h1 true (fn7 x))))) (
  .ret (.inr false))) (
  .need (pre8 y81) <|
  let y87 : Bool := ((!y82) == false)
  .ite y87 (
  let y88 : ((List Int) × Int) := (y80.2.1, 4)
  .need (pre8 y88) <|
  let y89 : Bool := (!(fn8 y88))
  .ite y89 (
  .ret (.inr false)) (
  .ret (.inl (.h1 true (fn7 x))))) (
  .ret (.inr false)))))) (
  let y90 : DOperand := x.2.2.2.1
  let y91 : Bool := ((ieq y90.1 1) == true)
  .ite y91 (
  let y92 : ((List Int) × ((List Int) × (Int × (Int × (Int × (Int × Bool)))))) := (fn7 x).2
  let y93 : ((List Int) × Int) := (y92.1, 4)
  .need (pre8 y93) <|
  let y94 : Bool := (fn8 y93)
  let y95 : Bool := (y94 == true)
  .ite y95 (
  .need (pre8 y93) <|
  let y96 : Bool := ((!y94) == false)
  .ite y96 (
  let y97 : ((List Int) × Int) := (y92.2.1, 4)
  .need (pre8 y97) <|
  let y98 : Bool := (!(fn8 y97))
  .ite y98 (
  .ret (.inr false)) (
  .ret (.inl (.h1 true (fn7 x))))) (
  .ret (.inr false))) (
  .need (pre8 y93) <|
  let y99 : Bool := ((!y94) == false)
  .ite y99 (
  let y100 : ((List Int) × Int) := (y92.2.1, 4)
  .need (pre8 y100) <|
  let y101 : Bool := (!(fn8 y100))
  .ite y101 (
  .ret (.inr false)) (
  .ret (.inl (.h1 true (fn7 x))))) (
  .ret (.inr false)))) (
  let y102 : ((List Int) × ((List Int) × (Int × (Int × (Int × (Int × Bool)))))) := (fn7 x).2
  let y103 : ((List Int) × Int) := (y102.1, 4)
  .need (pre8 y103) <|
  let y104 : Bool := (fn8 y103)
  let y105 : Bool := (y104 == true)
  .ite y105 (
  .need (pre8 y103) <|
  let y106 : Bool := ((!y104) == false)
  .ite y106 (
  let y107 : ((List Int) × Int) := (y102.2.1, 4)
  .need (pre8 y107) <|
  let y108 : Bool := (!(fn8 y107))
  .ite y108 (
  .ret (.inr false)) (
  .ret (.inl (.h1 true (fn7 x))))) (
  .ret (.inr false))) (
  .need (pre8 y103) <|
  let y109 : Bool := ((!y104) == false)
  .ite y109 (
  let y110 : ((List Int) × Int) := (y102.2.1, 4)
  .need (pre8 y110) <|
  let y111 : Bool := (!(fn8 y110))
  .ite y111 (
  .ret (.inr false)) (
  .ret (.inl (.h1 true (fn7 x))))) (
  .ret (.inr false)))))
  | .h1 v0 v22 =>
  .need (pre9 x) <|
  .ite ((fn9 x) == true) (
  .ite ((ine (v22.1.length : Int) 0) == false) (
  let y0 : (Int × (Int × (Int × (Int × Bool)))) := v22.2.2.2
  .ite ((ine y0.1 0) == false) (
  .ite ((ine y0.2.2.1 0) == false) (
  .ite (ine (v22.2.1.length : Int) 1) (
  .ret (.inr false)) (
  .ret (.inl (.h2 v0 v22)))) (
  .ret (.inr false))) (
  .ret (.inr false))) (
  .ret (.inr false))) (
  .ret (.inl (.h2 v0 v22)))
  | .h2 v0 v22 =>
  .ret (.inl (.h3 v0 0 v22))
  | .h3 v0 v1 v23 =>
  .ite (ilt v1 (v23.2.1.length : Int)) (
  .ret (.inl (.h4 v0 v1 v23))) (
  .ret (.inl (.h5)))
  | .h4 v0 v1 v23 =>
  .need ((0 : Int) ≤ v1) <|
  let y0 : (List Int) := v23.2.1
  .need (v1 < (y0.length : Int)) <|
  let y1 : DOperand := x.2.2.2.1
  .ite ((ieq y1.1 1) == true) (
  let y2 : Int := (rdc (.int .i64) y0 (v1).toNat)
  .ite ((!(ieq y2 y1.2.1)) == true) (
  .ite (v0 == true) (
  let y3 : Bool := ((!(ieq y2 4)) == true)
  .ite y3 (
  let y4 : Bool := ((ieq x.1 22) == false)
  .ite y4 (
  let y5 : Bool := ((ieq x.1 23) == true)
  .ite y5 (
  let y6 : Bool := ((ieq y2 0) == false)
  .ite y6 (
  let y7 : Bool := (!(ieq y2 2))
  .ite y7 (
  .ret (.inr false)) (
  .ret (.inl (.h6 v0 v1 v23)))) (
  .ret (.inl (.h6 v0 v1 v23)))) (
  .ret (.inr false))) (
  let y8 : Bool := ((ieq y2 0) == false)
  .ite y8 (
  let y9 : Bool := (!(ieq y2 2))
  .ite y9 (
  .ret (.inr false)) (
  .ret (.inl (.h6 v0 v1 v23)))) (
  .ret (.inl (.h6 v0 v1 v23))))) (
  .ret (.inl (.h6 v0 v1 v23)))) (
  let y10 : Bool := ((ieq x.1 22) == false)
  .ite y10 (
  let y11 : Bool := ((ieq x.1 23) == true)
  .ite y11 (
  let y12 : Bool := ((ieq y2 0) == false)
  .ite y12 (
  let y13 : Bool := (!(ieq y2 2))
  .ite y13 (
  .ret (.inr false)) (
  .ret (.inl (.h6 v0 v1 v23)))) (
  .ret (.inl (.h6 v0 v1 v23)))) (
  .ret (.inr false))) (
  let y14 : Bool := ((ieq y2 0) == false)
  .ite y14 (
  let y15 : Bool := (!(ieq y2 2))
  .ite y15 (
  .ret (.inr false)) (
  .ret (.inl (.h6 v0 v1 v23)))) (
  .ret (.inl (.h6 v0 v1 v23)))))) (
  .ret (.inl (.h6 v0 v1 v23)))) (
  .ite (v0 == true) (
  let y16 : Int := (rdc (.int .i64) y0 (v1).toNat)
  let y17 : Bool := ((!(ieq y16 4)) == true)
  .ite y17 (
  let y18 : Bool := ((ieq x.1 22) == false)
  .ite y18 (
  let y19 : Bool := ((ieq x.1 23) == true)
  .ite y19 (
  let y20 : Bool := ((ieq y16 0) == false)
  .ite y20 (
  let y21 : Bool := (!(ieq y16 2))
  .ite y21 (
  .ret (.inr false)) (
  .ret (.inl (.h6 v0 v1 v23)))) (
  .ret (.inl (.h6 v0 v1 v23)))) (
  .ret (.inr false))) (
  let y22 : Bool := ((ieq y16 0) == false)
  .ite y22 (
  let y23 : Bool := (!(ieq y16 2))
  .ite y23 (
  .ret (.inr false)) (
  .ret (.inl (.h6 v0 v1 v23)))) (
  .ret (.inl (.h6 v0 v1 v23))))) (
  .ret (.inl (.h6 v0 v1 v23)))) (
  let y24 : Bool := ((ieq x.1 22) == false)
  .ite y24 (
  let y25 : Bool := ((ieq x.1 23) == true)
  .ite y25 (
  let y26 : Int := (rdc (.int .i64) y0 (v1).toNat)
  let y27 : Bool := ((ieq y26 0) == false)
  .ite y27 (
  let y28 : Bool := (!(ieq y26 2))
  .ite y28 (
  .ret (.inr false)) (
  .ret (.inl (.h6 v0 v1 v23)))) (
  .ret (.inl (.h6 v0 v1 v23)))) (
  .ret (.inr false))) (
  let y29 : Int := (rdc (.int .i64) y0 (v1).toNat)
  let y30 : Bool := ((ieq y29 0) == false)
  .ite y30 (
  let y31 : Bool := (!(ieq y29 2))
  .ite y31 (
  .ret (.inr false)) (
  .ret (.inl (.h6 v0 v1 v23)))) (
  .ret (.inl (.h6 v0 v1 v23))))))
  | .h5 =>
  .need (pre6 ()) <|
  .ret (.inr (fn6 ()))
  | .h6 v0 v1 v23 =>
  .ret (.inl (.h3 v0 (iadd .i64 v1 1) v23))
noncomputable def cRUF4_0 (x : DInsn) : AObj := .cell true 25 (.agg [1, 1, 1, 8, 8, 1, 1] [(.int .u8 x.1), (.int .u8 x.2.1), (.int .i64 x.2.2.1), (.agg [1, 1, 1, 1, 1, 1, 1, 1] [(.int .u8 x.2.2.2.1.1), (.int .i64 x.2.2.2.1.2.1), (.int .i64 x.2.2.2.1.2.2.1), (.int .i64 x.2.2.2.1.2.2.2.1), (.int .i64 x.2.2.2.1.2.2.2.2.1), (.int .i64 x.2.2.2.1.2.2.2.2.2.1), (.bool x.2.2.2.1.2.2.2.2.2.2.1), (.int .i64 x.2.2.2.1.2.2.2.2.2.2.2)]), (.agg [1, 1, 1, 1, 1, 1, 1, 1] [(.int .u8 x.2.2.2.2.1.1), (.int .i64 x.2.2.2.2.1.2.1), (.int .i64 x.2.2.2.2.1.2.2.1), (.int .i64 x.2.2.2.2.1.2.2.2.1), (.int .i64 x.2.2.2.2.1.2.2.2.2.1), (.int .i64 x.2.2.2.2.1.2.2.2.2.2.1), (.bool x.2.2.2.2.1.2.2.2.2.2.2.1), (.int .i64 x.2.2.2.2.1.2.2.2.2.2.2.2)]), (.int .u8 x.2.2.2.2.2.1), (.int .i64 x.2.2.2.2.2.2)])
noncomputable def head3 (x : DInsn) : J3 → Head
  | .h0 =>
  { fr := { id := 3, kind := .top, T := [.any, (.ptr 0 [])] ++ List.replicate 145 .any, items := [.code (subc [1, 1, 0] (bodyOf Tryd.f3)), .code (subc [1, 1, 1] (bodyOf Tryd.f3))], D := [], base := 0 },
    stk := [],
    H := [(cRUF4_0 x)] }
  | .h1 v0 v22 =>
  { fr := { id := 3, kind := .top, T := [.any, (.ptr 0 []), .any, (.ptr 1 []), (.bool v0)] ++ List.replicate 142 .any, items := [.code (subc [1, 1, 1, 1, 1, 1, 0, 0] (bodyOf Tryd.f3)), .code (subc [1, 1, 1, 1, 1, 1, 0, 1] (bodyOf Tryd.f3)), .code (subc [1, 1, 1, 1, 1, 1, 1] (bodyOf Tryd.f3))], D := [], base := 0 },
    stk := [],
    H := [(cRUF4_0 x), .cell true 30 (.agg [1, 1, 1, 1, 1, 1, 1, 1] [(.fsl (.int .i64) v22.1), (.fsl (.int .i64) v22.2.1), (.fsl (.int .i64) v22.2.2.1), (.int .u8 v22.2.2.2.1), (.int .u8 v22.2.2.2.2.1), (.int .i64 v22.2.2.2.2.2.1), (.int .i64 v22.2.2.2.2.2.2.1), (.bool v22.2.2.2.2.2.2.2)])] }
  | .h2 v0 v22 =>
  { fr := { id := 3, kind := .top, T := [.any, (.ptr 0 []), .any, (.ptr 1 []), (.bool v0)] ++ List.replicate 142 .any, items := [.code (subc [1, 1, 1, 1, 1, 1, 1, 0, 0] (bodyOf Tryd.f3)), .code (subc [1, 1, 1, 1, 1, 1, 1, 0, 1] (bodyOf Tryd.f3)), .code (subc [1, 1, 1, 1, 1, 1, 1, 1] (bodyOf Tryd.f3))], D := [], base := 0 },
    stk := [],
    H := [(cRUF4_0 x), .cell true 30 (.agg [1, 1, 1, 1, 1, 1, 1, 1] [(.fsl (.int .i64) v22.1), (.fsl (.int .i64) v22.2.1), (.fsl (.int .i64) v22.2.2.1), (.int .u8 v22.2.2.2.1), (.int .u8 v22.2.2.2.2.1), (.int .i64 v22.2.2.2.2.2.1), (.int .i64 v22.2.2.2.2.2.2.1), (.bool v22.2.2.2.2.2.2.2)])] }
  | .h3 v0 v1 v23 =>
  { fr := { id := 3, kind := .top, T := [.any, (.ptr 0 []), .any, (.ptr 1 []), (.bool v0), .any, (.int .i64 v1)] ++ List.replicate 140 .any, items := [.lp (subc [1, 1, 1, 1, 1, 1, 1, 0, 1, 0, 0] (bodyOf Tryd.f3)), .blk 0, .code (subc [1, 1, 1, 1, 1, 1, 1, 1] (bodyOf Tryd.f3))], D := [], base := 0 },
    stk := [],
    H := [(cRUF4_0 x), .cell true 30 (.agg [1, 1, 1, 1, 1, 1, 1, 1] [(.fsl (.int .i64) v23.1), (.fsl (.int .i64) v23.2.1), (.fsl (.int .i64) v23.2.2.1), (.int .u8 v23.2.2.2.1), (.int .u8 v23.2.2.2.2.1), (.int .i64 v23.2.2.2.2.2.1), (.int .i64 v23.2.2.2.2.2.2.1), (.bool v23.2.2.2.2.2.2.2)])] }
  | .h4 v0 v1 v23 =>
  { fr := { id := 3, kind := .top, T := [.any, (.ptr 0 []), .any, (.ptr 1 []), (.bool v0), .any, (.int .i64 v1)] ++ List.replicate 140 .any, items := [.code (subc [1, 1, 1, 1, 1, 1, 1, 0, 1, 0, 0, 1, 0, 0, 0] (bodyOf Tryd.f3)), .code (subc [1, 1, 1, 1, 1, 1, 1, 0, 1, 0, 0, 1, 0, 0, 1] (bodyOf Tryd.f3)), .blk 1, .code (subc [1, 1, 1, 1, 1, 1, 1, 0, 1, 0, 0, 1, 1] (bodyOf Tryd.f3)), .lp (subc [1, 1, 1, 1, 1, 1, 1, 0, 1, 0, 0] (bodyOf Tryd.f3)), .blk 0, .code (subc [1, 1, 1, 1, 1, 1, 1, 1] (bodyOf Tryd.f3))], D := [], base := 0 },
    stk := [],
    H := [(cRUF4_0 x), .cell true 30 (.agg [1, 1, 1, 1, 1, 1, 1, 1] [(.fsl (.int .i64) v23.1), (.fsl (.int .i64) v23.2.1), (.fsl (.int .i64) v23.2.2.1), (.int .u8 v23.2.2.2.1), (.int .u8 v23.2.2.2.2.1), (.int .i64 v23.2.2.2.2.2.1), (.int .i64 v23.2.2.2.2.2.2.1), (.bool v23.2.2.2.2.2.2.2)])] }
  | .h5 =>
  { fr := { id := 3, kind := .top, T := List.replicate 147 .any, items := [.code (subc [1, 1, 1, 1, 1, 1, 1, 1, 0] (bodyOf Tryd.f3)), .code (subc [1, 1, 1, 1, 1, 1, 1, 1, 1] (bodyOf Tryd.f3))], D := [], base := 0 },
    stk := [],
    H := [] }
  | .h6 v0 v1 v23 =>
  { fr := { id := 3, kind := .top, T := [.any, (.ptr 0 []), .any, (.ptr 1 []), (.bool v0), .any, (.int .i64 v1)] ++ List.replicate 140 .any, items := [.code (subc [1, 1, 1, 1, 1, 1, 1, 0, 1, 0, 0, 1, 1] (bodyOf Tryd.f3)), .lp (subc [1, 1, 1, 1, 1, 1, 1, 0, 1, 0, 0] (bodyOf Tryd.f3)), .blk 0, .code (subc [1, 1, 1, 1, 1, 1, 1, 1] (bodyOf Tryd.f3))], D := [], base := 0 },
    stk := [],
    H := [(cRUF4_0 x), .cell true 30 (.agg [1, 1, 1, 1, 1, 1, 1, 1] [(.fsl (.int .i64) v23.1), (.fsl (.int .i64) v23.2.1), (.fsl (.int .i64) v23.2.2.1), (.int .u8 v23.2.2.2.1), (.int .u8 v23.2.2.2.2.1), (.int .i64 v23.2.2.2.2.2.1), (.int .i64 v23.2.2.2.2.2.2.1), (.bool v23.2.2.2.2.2.2.2)])] }
noncomputable def stop3 : FuncId → Nat → Nat → Option Cut
  | 3, 7, 0 => some { tmps := [1], loops := [], dead := [], stk := [] }
  | 3, 17, 0 => some { tmps := [1, 3, 4], loops := [], dead := [], stk := [] }
  | 3, 21, 0 => some { tmps := [1, 3, 4], loops := [], dead := [], stk := [] }
  | 3, 0, 0 => some { tmps := [1, 3, 4, 6], loops := [], dead := [], stk := [] }
  | 3, 27, 0 => some { tmps := [1, 3, 4, 6], loops := [], dead := [], stk := [] }
  | 3, 33, 0 => some { tmps := [], loops := [], dead := [], stk := [] }
  | 3, 25, 0 => some { tmps := [1, 3, 4, 6], loops := [], dead := [], stk := [] }
  | _, _, _ => none
noncomputable def fn3 (x : DInsn) : Bool := endVal (TC.dflt .bool) (step3 x) (tree3 x)
def pre3 (x : DInsn) : Prop := ∃ r, Ends (step3 x) r (tree3 x)
noncomputable def spec3 : Spec := { dom := (.st1 CInsn), cod := .bool, n := 1, pre := pre3, f := fn3 }
noncomputable def need3 : FuncId → Option Spec
  | 5 => some spec5
  | 6 => some spec6
  | 7 => some spec7
  | 8 => some spec8
  | 9 => some spec9
  | _ => none
theorem need3_ok : ∀ f sp, need3 f = some sp → SpecOk env0 f sp := by
  intro f sp h
  unfold need3 at h
  split at h
  · cases h; exact ok5
  · cases h; exact ok6
  · cases h; exact ok7
  · cases h; exact ok8
  · cases h; exact ok9
  · cases h
theorem run3 (W : Cfg) (Q : Bool → Prop) (x : DInsn) : run (env need3 (fun _ _ => none)) stop3 (finS spec3 Q) W 100000 (startFr 3 Tryd.f3 (bodyOf Tryd.f3) (argsOf (.st1 CInsn) x)) [] [] = (tree3 x).wp (kont W Q (head3 x)) := by kernel_rfl
theorem run3h0 (W : Cfg) (Q : Bool → Prop) (x : DInsn) : run (env need3 (fun _ _ => none)) stop3 (finS spec3 Q) W 100000 (head3 x (.h0)).fr.enter (head3 x (.h0)).stk (head3 x (.h0)).H = (step3 x (.h0)).wp (kont W Q (head3 x)) := by kernel_rfl
theorem run3h1 (W : Cfg) (Q : Bool → Prop) (x : DInsn) (v0 : Bool) (v22 : DFacts) : run (env need3 (fun _ _ => none)) stop3 (finS spec3 Q) W 100000 (head3 x (.h1 v0 v22)).fr.enter (head3 x (.h1 v0 v22)).stk (head3 x (.h1 v0 v22)).H = (step3 x (.h1 v0 v22)).wp (kont W Q (head3 x)) := by kernel_rfl
theorem run3h2 (W : Cfg) (Q : Bool → Prop) (x : DInsn) (v0 : Bool) (v22 : DFacts) : run (env need3 (fun _ _ => none)) stop3 (finS spec3 Q) W 100000 (head3 x (.h2 v0 v22)).fr.enter (head3 x (.h2 v0 v22)).stk (head3 x (.h2 v0 v22)).H = (step3 x (.h2 v0 v22)).wp (kont W Q (head3 x)) := by kernel_rfl
theorem run3h3 (W : Cfg) (Q : Bool → Prop) (x : DInsn) (v0 : Bool) (v1 : Int) (v23 : DFacts) : run (env need3 (fun _ _ => none)) stop3 (finS spec3 Q) W 100000 (head3 x (.h3 v0 v1 v23)).fr.enter (head3 x (.h3 v0 v1 v23)).stk (head3 x (.h3 v0 v1 v23)).H = (step3 x (.h3 v0 v1 v23)).wp (kont W Q (head3 x)) := by kernel_rfl
theorem run3h4 (W : Cfg) (Q : Bool → Prop) (x : DInsn) (v0 : Bool) (v1 : Int) (v23 : DFacts) : run (env need3 (fun _ _ => none)) stop3 (finS spec3 Q) W 100000 (head3 x (.h4 v0 v1 v23)).fr.enter (head3 x (.h4 v0 v1 v23)).stk (head3 x (.h4 v0 v1 v23)).H = (step3 x (.h4 v0 v1 v23)).wp (kont W Q (head3 x)) := by kernel_rfl
theorem run3h5 (W : Cfg) (Q : Bool → Prop) (x : DInsn) : run (env need3 (fun _ _ => none)) stop3 (finS spec3 Q) W 100000 (head3 x (.h5)).fr.enter (head3 x (.h5)).stk (head3 x (.h5)).H = (step3 x (.h5)).wp (kont W Q (head3 x)) := by kernel_rfl
theorem run3h6 (W : Cfg) (Q : Bool → Prop) (x : DInsn) (v0 : Bool) (v1 : Int) (v23 : DFacts) : run (env need3 (fun _ _ => none)) stop3 (finS spec3 Q) W 100000 (head3 x (.h6 v0 v1 v23)).fr.enter (head3 x (.h6 v0 v1 v23)).stk (head3 x (.h6 v0 v1 v23)).H = (step3 x (.h6 v0 v1 v23)).wp (kont W Q (head3 x)) := by kernel_rfl
theorem runs3 (W : Cfg) (Q : Bool → Prop) (x : DInsn) : ∀ j : J3, run (env need3 (fun _ _ => none)) stop3 (finS spec3 Q) W 100000 (head3 x j).fr.enter (head3 x j).stk (head3 x j).H = (step3 x j).wp (kont W Q (head3 x))
  | .h0 => run3h0 W Q x
  | .h1 v0 v22 => run3h1 W Q x v0 v22
  | .h2 v0 v22 => run3h2 W Q x v0 v22
  | .h3 v0 v1 v23 => run3h3 W Q x v0 v1 v23
  | .h4 v0 v1 v23 => run3h4 W Q x v0 v1 v23
  | .h5 => run3h5 W Q x
  | .h6 v0 v1 v23 => run3h6 W Q x v0 v1 v23
theorem ok3 : SpecOk env0 3 spec3 := SpecOk.env rfl (fun _ _ h => h) (spec_of_trees (E := (env need3 (fun _ _ => none))) (sp := spec3) (valid _ _) (fun f sp h => SpecOk.env rfl (fun _ _ h => h) (need3_ok f sp h)) (fn := Tryd.f3) (c := (bodyOf Tryd.f3)) (by kernel_rfl) (by kernel_rfl) tree3 step3 head3 run3 runs3 (fun _ h => endVal_ends h))

/-! ### sundial/sundiallaw11.holds -/
end Go.Eng.RU
end
section
/- What the law calls where it has nothing to say. -/
namespace Go.Eng.RU
open Go.Eng
set_option maxRecDepth 100000
set_option linter.unusedSectionVars false
set_option linter.unusedSimpArgs false
set_option linter.unusedVariables false
/-! ### Conditions' flags -/
noncomputable def idxB (n : Nat) : Bool := ile 0 (iquo .u8 (irem .u8 n 16) 2) && ilt (iquo .u8 (irem .u8 n 16) 2) 8 && ieq (fn10 (ixor .u8 n 1)) (fn10 n) && ile 0 (ixor .u8 n 1) && ilt (ixor .u8 n 1) 256 && !(ieq (fn10 n) 0) && !(ilt 31 (fn10 n))
theorem idx_all : (List.range 256).all idxB = true := by kernel_rfl
theorem idx_at {c : Int} (h0 : 0 ≤ c) (h1 : c < 256) : 0 ≤ iquo .u8 (irem .u8 c 16) 2 ∧ iquo .u8 (irem .u8 c 16) 2 < 8 ∧ fn10 (ixor .u8 c 1) = fn10 c ∧ 0 ≤ ixor .u8 c 1 ∧ ixor .u8 c 1 < 256 ∧ ieq (fn10 c) 0 = false ∧ ilt 31 (fn10 c) = false := by
  obtain ⟨n, rfl⟩ := Int.eq_ofNat_of_zero_le h0
  have := List.all_eq_true.1 idx_all n (List.mem_range.2 (by omega))
  unfold idxB at this
  simp only [Bool.and_eq_true, Bool.not_eq_true', ile_iff, ilt_iff, ieq_iff] at this
  obtain ⟨⟨⟨⟨⟨⟨a1, a2⟩, a3⟩, a4⟩, a5⟩, a6⟩, a7⟩ := this
  exact ⟨a1, a2, a3, a4, a5, a6, a7⟩
theorem pre10_ok {c : Int} (h0 : 0 ≤ c) (h1 : c < 256) : pre10 c := by
  obtain ⟨a1, a2, _⟩ := idx_at h0 h1
  unfold pre10 tree10
  exact ⟨by decide, by decide, a1, a2, by omega, trivial⟩
/-! ### Targets, ends -/
theorem pre14_ok (x) : pre14 x := by
  unfold pre14 tree14
  simp only [ok_ite, ok_need, ok_ret]
  simp
theorem ends24 : fn17 ([26, 27, 28, 29], 24) = false := by
  have h : Ends (step56 ([26, 27, 28, 29], 24)) (-1) (tree56 ([26, 27, 28, 29], 24)) := by
    unfold tree56
    simp only [ends_jump]
    simp only [step56]
    refine .yes _ _ (.need _ _ (by decide) (.need _ _ (by decide) (.no _ _ (.jump _ ?_))))
    simp only [step56]
    refine .yes _ _ (.need _ _ (by decide) (.need _ _ (by decide) (.no _ _ (.jump _ ?_))))
    simp only [step56]
    refine .yes _ _ (.need _ _ (by decide) (.need _ _ (by decide) (.no _ _ (.jump _ ?_))))
    simp only [step56]
    refine .yes _ _ (.need _ _ (by decide) (.need _ _ (by decide) (.no _ _ (.jump _ ?_))))
    simp only [step56]
    exact .no _ _ .ret
  have e : fn56 ([26, 27, 28, 29], 24) = -1 := endVal_eq h
  unfold fn17 tree17
  simp only [val_need, val_ret, e]
  rfl
/-! ### A push -/
variable {x : DInsn}
theorem c13w (hk : ieq x.2.2.2.1.1 1 = true) : Fin x (step7h13 x) (fun R W A i o l s => R = [x.2.2.2.1.2.1, 4] ∧ s = 8) := by
  have u1 := ulen x.2.2.2.1
  have u2 := ulen x.2.2.2.2.1
  simp only [step7h13, fn28_ok, beq_true, beq_false, uses_um, hk]
  repeat' (first
    | exact fin_ff (by assumption) | exact fin_tf (by assumption)
    | refine fin_need (by first | exact True.intro | exact pre28_ok _ | exact pre9_ok _ | exact pre40_ok _ | exact pre64_ok _ | assumption | omega | (simp only [List.length_append, List.length_cons, List.length_nil] <;> omega)) ?_
    | refine fin_ite (fun h => ?_) (fun h => ?_)
    | apply fin_23 | apply fin_24 | apply fin_25 | apply fin_26 | apply fin_27 | apply fin_28 | apply fin_29 | apply fin_30)
  all_goals first
    | omega | rfl | (simp only [List.length_append, List.length_cons, List.length_nil] <;> omega) | skip
  all_goals exact ⟨rfl, rfl⟩
theorem push_fin (hd : x.1 = 24) (hk : ieq x.2.2.2.1.1 1 = true) : Fin x (tree7 x) (fun R W A i o l s => R = [x.2.2.2.1.2.1, 4] ∧ s = 8) := by
  have hh := c13w hk
  obtain ⟨d, r⟩ := x
  have hd : d = 24 := hd
  subst hd
  unfold tree7
  refine fin_need pre15_ok ?_
  iterate 24 refine fin_ite (fun h => absurd (show (false : Bool) = true from h) (by decide)) (fun _ => ?_)
  exact fin_ite (fun _ => fin_jump hh) (fun h => absurd (show (true : Bool) = false from h) (by decide))
theorem rise_two {a b : Int} (h : a ≠ b) : (rise [a, b]).length = 2 := by
  have h1 := rise_len [a, b]
  have h2 : a ∈ rise [a, b] := mem_rise.2 (by simp)
  have h3 : b ∈ rise [a, b] := mem_rise.2 (by simp)
  match hr : rise [a, b] with
  | [] => rw [hr] at h2; cases h2
  | [c] =>
    rw [hr] at h2 h3
    have := (List.mem_singleton.1 h2).trans (List.mem_singleton.1 h3).symm
    exact absurd this h
  | [c, d] => rfl
  | c :: d :: e :: r => rw [hr] at h1; simp at h1
theorem wakes_ok : pre6 () ∧ fn6 () = true := by
  have p0 : pre10 0 := pre10_ok (by decide) (by decide)
  have p4 : pre10 4 := pre10_ok (by decide) (by decide)
  have f4 : fn10 4 = 2 := by kernel_rfl
  obtain ⟨q1, R, W, A, i, o, l, s, e1, _, g1⟩ := of_ok (9, (0, (8, ((fn13 0), ((fn13 0), (0, 3)))))) p0
  obtain ⟨q2, R', W', A', i', o', l', s', e2, _, g2⟩ := of_ok (24, (0, (8, ((fn13 3), ((0, (0, (0, (0, (0, (0, (false, 0))))))), (0, 1)))))) p0
  have hn : fn9 (9, (0, (8, ((fn13 0), ((fn13 0), (0, 3)))))) = true := nought_iff.2 ⟨.inl rfl, rfl, rfl, rfl⟩
  obtain ⟨hR, hW, _⟩ := g1.nought hn
  have ho := g1.xor hn rfl
  have hA : (fn13 0).2.1 = 0 := rfl
  obtain ⟨R2, W2, A2, i2, o2, l2, s2, e3, _, h3, h4⟩ := push_fin (x := (24, (0, (8, ((fn13 3), ((0, (0, (0, (0, (0, (0, (false, 0))))))), (0, 1))))))) rfl rfl
  have e3 : fn7 (24, (0, (8, ((fn13 3), ((0, (0, (0, (0, (0, (0, (false, 0))))))), (0, 1)))))) = _ := endVal_eq e3
  have t14 : fn14 ((9, (0, (8, ((fn13 0), ((fn13 0), (0, 3)))))), 7) = [10] := by kernel_rfl
  have hA3 : (fn13 3).2.1 = 3 := rfl
  have v1 : (fn7 (9, (0, (8, ((fn13 0), ((fn13 0), (0, 3))))))).1 = [] := by rw [e1]; simp only [fin7, hR, rise_nil]
  have v2 : (fn7 (9, (0, (8, ((fn13 0), ((fn13 0), (0, 3))))))).2.1 = [0] := by rw [e1]; simp only [fin7, hW, rise_one, hA]
  have v3 : (fn7 (9, (0, (8, ((fn13 0), ((fn13 0), (0, 3))))))).2.2.2.2.1 = 31 := by rw [e1]; exact ho
  have v4 : (fn7 (24, (0, (8, ((fn13 3), ((0, (0, (0, (0, (0, (0, (false, 0))))))), (0, 1))))))).1.length = 2 := by rw [e3]; simp only [fin7, h3, hA3]; exact rise_two (by decide)
  have v5 : (fn7 (24, (0, (8, ((fn13 3), ((0, (0, (0, (0, (0, (0, (false, 0))))))), (0, 1))))))).2.2.2.2.2.2.1 = 8 := by rw [e3]; exact h4
  have v6 : (fn7 (24, (0, (8, ((fn13 3), ((0, (0, (0, (0, (0, (0, (false, 0))))))), (0, 1))))))).2.2.2.2.2.2.2 = false := by rw [e3]; exact ends24
  constructor
  · unfold pre6 tree6
    simp only [ok_ite, ok_need, ok_ret, pre13_ok, pre14_ok, pre9_ok, q1, q2, p4, v1, v2, v3, v4, v5, v6, t14]
    simp
  · unfold fn6 tree6
    simp only [val_ite, val_need, val_ret, v1, v2, v3, v4, v5, v6, t14, hn, f4]
    rfl
end Go.Eng.RU
end
section
/- FactsStack: plain. -/
namespace Go.Eng.RU
open Go.Eng
set_option maxRecDepth 100000
set_option linter.unusedSectionVars false
set_option linter.unusedSimpArgs false
set_option linter.unusedVariables false
/-! ### has -/
theorem has_h0 (l : List Int) (n : Int) (hl : l.length ≤ 1000) : ∀ (m i : Nat), i + m = l.length → Ends (step8 (l, n)) (decide (n ∈ l.drop i)) (step8 (l, n) (.h0 i)) := by
  intro m
  induction m with
  | zero =>
    intro i hi
    simp only [step8]
    rw [lt_no (show l.length ≤ i by omega)]
    rw [List.drop_of_length_le (by omega)]
    exact .no _ _ .ret
  | succ m ih =>
    intro i hi
    have hi' : i < l.length := by omega
    have hr := ih (i + 1) (by omega)
    simp only [step8]
    rw [lt_yes (show i < l.length by omega)]
    rw [show ((i : Nat) : Int).toNat = i from rfl, rdc_at (c := .int .i64) hi', one_more i (by omega), List.drop_eq_getElem_cons hi']
    refine .yes _ _ (.need _ _ (by omega) (.need _ _ (by omega) ?_))
    cases h : ieq l[i] n with
    | true =>
      have e := ieq_iff.1 h
      refine .yes _ _ ?_
      have : decide (n ∈ l[i] :: l.drop (i + 1)) = true := by simp [e]
      rw [this]
      exact .ret
    | false =>
      have e := ieq_no.1 h
      refine .no _ _ (.jump _ ?_)
      have : decide (n ∈ l[i] :: l.drop (i + 1)) = decide (n ∈ l.drop (i + 1)) := by
        simp only [List.mem_cons, decide_eq_decide]
        exact ⟨fun h => h.resolve_left (fun k => e k.symm), .inr⟩
      rw [this]
      exact hr
theorem has_ok (l : List Int) (n : Int) (hl : l.length ≤ 1000) : pre8 (l, n) ∧ fn8 (l, n) = decide (n ∈ l) := by
  have h : Ends (step8 (l, n)) (decide (n ∈ l)) (tree8 (l, n)) := by
    unfold tree8
    exact .jump _ (has_h0 l n hl l.length 0 (by omega))
  exact ⟨⟨_, h⟩, endVal_eq h⟩
/-! ### The law -/
variable {x : DInsn}
abbrev Dn (x : DInsn) (t : Tr (J3 ⊕ Bool)) : Prop := Ends (step3 x) true t
variable {t e : Tr (J3 ⊕ Bool)}
theorem dn_need {p : Prop} (h : p) (k : Dn x t) : Dn x (.need p t) := .need _ _ h k
theorem dn_ite {b : Bool} (h1 : b = true → Dn x t) (h2 : b = false → Dn x e) : Dn x (.ite b t e) := by
  cases b
  · exact .no _ _ (h2 rfl)
  · exact .yes _ _ (h1 rfl)
theorem dn_ff (h : false = true) : Dn x t := by cases h
theorem dn_tf (h : true = false) : Dn x t := by cases h
theorem h5_dn : Dn x (.ret (.inl .h5)) := by
  obtain ⟨h1, h2⟩ := wakes_ok
  refine .jump _ (.need _ _ h1 ?_)
  rw [h2]
  exact .ret
theorem h4_dn {v0 : Bool} {i : Nat} {F : DFacts} (hi : i < F.2.1.length) (hw : (ieq x.2.2.2.1.1 1 && ieq F.2.1[i] x.2.2.2.1.2.1) || (v0 && ieq F.2.1[i] 4) || ((ieq x.1 22 || ieq x.1 23) && (ieq F.2.1[i] 0 || ieq F.2.1[i] 2)) = true)
    (k : Dn x (.ret (.inl (.h6 v0 i F)))) : Dn x (.ret (.inl (.h4 v0 i F))) := by
  refine .jump _ ?_
  simp only [step3]
  rw [show ((i : Nat) : Int).toNat = i from rfl, rdc_at (c := .int .i64) hi]
  refine dn_need (by omega) (dn_need (by omega) ?_)
  generalize ieq x.2.2.2.1.1 1 = b1 at *
  generalize ieq F.2.1[i] x.2.2.2.1.2.1 = b2 at *
  generalize ieq F.2.1[i] 4 = b3 at *
  generalize ieq x.1 22 = b4 at *
  generalize ieq x.1 23 = b5 at *
  generalize ieq F.2.1[i] 0 = b6 at *
  generalize ieq F.2.1[i] 2 = b7 at *
  clear hi
  repeat' (first | exact k | exact dn_ff (by assumption) | exact dn_tf (by assumption) | refine dn_ite (fun h => ?_) (fun h => ?_))
  all_goals (exfalso; simp_all; done)
theorem h3_dn {v0 : Bool} {F : DFacts} (hl : F.2.1.length ≤ 1000) (hw : ∀ n ∈ F.2.1, (ieq x.2.2.2.1.1 1 && ieq n x.2.2.2.1.2.1) || (v0 && ieq n 4) || ((ieq x.1 22 || ieq x.1 23) && (ieq n 0 || ieq n 2)) = true) :
    ∀ (m i : Nat), i + m = F.2.1.length → Dn x (.ret (.inl (.h3 v0 i F))) := by
  intro m
  induction m with
  | zero =>
    intro i hi
    refine .jump _ ?_
    simp only [step3]
    rw [lt_no (show F.2.1.length ≤ i by omega)]
    exact .no _ _ h5_dn
  | succ m ih =>
    intro i hi
    have hi' : i < F.2.1.length := by omega
    refine .jump _ ?_
    simp only [step3]
    rw [lt_yes (show i < F.2.1.length by omega)]
    refine .yes _ _ (h4_dn hi' (hw _ (List.getElem_mem hi')) ?_)
    refine .jump _ ?_
    simp only [step3]
    rw [one_more i (by omega)]
    exact ih (i + 1) (by omega)
theorem h1_dn {R W A : List Int} {i o l s : Int} (eF : fn7 x = fin7 x R W A i o l s) (lW : W.length ≤ 1000) (g : GG x R W A i o l s) {v0 : Bool} (hv : stk x → v0 = true) : Dn x (.ret (.inl (.h1 v0 (fn7 x)))) := by
  have rl := rise_len W
  have hW : (fn7 x).2.1 = rise W := by rw [eF]; rfl
  have k3 : Dn x (.ret (.inl (.h2 v0 (fn7 x)))) := by
    refine .jump _ ?_
    simp only [step3]
    refine h3_dn (by rw [hW]; omega) (fun n hn => ?_) _ 0 (Nat.zero_add _)
    rw [hW, mem_rise] at hn
    rcases g.writes n hn with ⟨h1, h2⟩ | ⟨h1, h2⟩ | ⟨h1, h2⟩
    · simp [ieq_iff.2 h1, ieq_iff.2 h2]
    · simp [hv h1, ieq_iff.2 h2]
    · rcases h1 with h1 | h1 <;> rcases h2 with h2 | h2 <;> simp [ieq_iff.2 h1, ieq_iff.2 h2]
  refine .jump _ ?_
  simp only [step3]
  refine dn_need (pre9_ok x) (dn_ite (fun h => ?_) (fun _ => k3))
  have h : fn9 x = true := by simpa using h
  obtain ⟨a1, a2, a3, a4⟩ := g.nought h
  have v1 : (fn7 x).1.length = 0 := by rw [eF]; simp only [fin7, a1, rise_nil]; rfl
  have v2 : (fn7 x).2.2.2.1 = 0 := by rw [eF]; exact a3
  have v3 : (fn7 x).2.2.2.2.2.1 = 0 := by rw [eF]; exact a4
  have v4 : (fn7 x).2.1.length = 1 := by rw [hW, a2, rise_one]; rfl
  rw [v1, v2, v3, v4]
  exact .yes _ _ (.yes _ _ (.yes _ _ (.no _ _ k3)))
theorem stack_law (x : DInsn) (w : TC.wf (.st1 CInsn) x) : pre3 x ∧ fn3 x = true := by
  have hc : 0 ≤ x.2.1 ∧ x.2.1 < 256 := by
    have h := w.2.1
    simp only [TC.wf, Lit.wf] at h
    have e1 : IntKind.u8.min = 0 := rfl
    have e2 : IntKind.u8.max = 255 := rfl
    have : IntKind.u8.min ≤ x.2.1 ∧ x.2.1 ≤ IntKind.u8.max := by simpa using h
    rw [e1, e2] at this
    exact ⟨this.1, by omega⟩
  obtain ⟨q, R, W, A, i, o, l, s, eF, ⟨lR, lW, lA⟩, g⟩ := of_ok x (pre10_ok hc.1 hc.2)
  have rl := rise_len W
  have ra := rise_len A
  have hW : (fn7 x).2.1 = rise W := by rw [eF]; rfl
  have hA : (fn7 x).2.2.1 = rise A := by rw [eF]; rfl
  obtain ⟨pw, fw⟩ := has_ok (rise W) 4 (by omega)
  obtain ⟨pa, fa⟩ := has_ok (rise A) 4 (by omega)
  rw [← hW] at pw fw
  rw [← hA] at pa fa
  obtain ⟨z1, z2⟩ := wakes_ok
  have f1 : (ieq x.1 24 || ieq x.1 25 || ieq x.1 26 || ieq x.1 27) = true → fn8 ((fn7 x).2.1, 4) = true ∧ fn8 ((fn7 x).2.2.1, 4) = true := by
    intro h
    simp only [Bool.or_eq_true, ieq_iff] at h
    obtain ⟨b1, b2⟩ := g.stack (by unfold stk; omega)
    rw [fw, fa, hW, hA]
    simp only [decide_eq_true_eq, mem_rise]
    exact ⟨b1, b2⟩
  have f2 : fn8 ((fn7 x).2.1, 4) = true → (ieq x.1 24 || ieq x.1 25 || ieq x.1 26 || ieq x.1 27 || (ieq x.2.2.2.1.1 1 && ieq x.2.2.2.1.2.1 4)) = true := by
    intro h
    rw [fw, hW] at h
    simp only [decide_eq_true_eq, mem_rise] at h
    simp only [Bool.or_eq_true, Bool.and_eq_true, ieq_iff]
    rcases g.writes 4 h with ⟨h1, h2⟩ | ⟨h1, _⟩ | ⟨_, h2⟩
    · exact .inr ⟨h1, h2.symm⟩
    · unfold stk at h1; omega
    · omega
  have kT : Dn x (.ret (.inl (.h1 true (fn7 x)))) := h1_dn eF lW g (fun _ => rfl)
  have k27 : ieq x.1 24 = false → ieq x.1 25 = false → ieq x.1 26 = false → Dn x (.ret (.inl (.h1 (ieq x.1 27) (fn7 x)))) := by
    intro n1 n2 n3
    refine h1_dn eF lW g fun h => ?_
    have n1 := ieq_no.1 n1
    have n2 := ieq_no.1 n2
    have n3 := ieq_no.1 n3
    unfold stk at h
    exact ieq_iff.2 (by omega)
  have key : Dn x (.ret (.inl .h0)) := by
    refine .jump _ ?_
    simp only [step3, beq_true, beq_false]
    refine dn_need q ?_
    generalize fn7 x = F at *
    generalize ieq x.1 24 = a24 at *
    generalize ieq x.1 25 = a25 at *
    generalize ieq x.1 26 = a26 at *
    generalize ieq x.1 27 = a27 at *
    generalize ieq x.2.2.2.1.1 1 = k1 at *
    generalize ieq x.2.2.2.1.2.1 4 = k4 at *
    generalize fn8 (F.2.1, 4) = hw at *
    generalize fn8 (F.2.2.1, 4) = ha at *
    clear fw fa eF hW hA g rl ra lR lW lA hc w z1 z2
    repeat' (first | exact kT | exact k27 (by simp_all) (by simp_all) (by simp_all) | exact dn_ff (by assumption) | exact dn_tf (by assumption) | refine dn_need (by assumption) ?_ | refine dn_ite (fun h => ?_) (fun h => ?_))
    all_goals (exfalso; simp_all; done)
  have fin : Dn x (tree3 x) := by
    unfold tree3
    refine dn_need (pre5_ok x) (dn_ite (fun _ => dn_need z1 ?_) (fun _ => key))
    rw [z2]
    exact .ret
  exact ⟨⟨_, fin⟩, endVal_eq fin⟩
end Go.Eng.RU
end
