/- A part of the proof that the laws of this seat hold. Conditions: none beyond the row. -/
import Derived.Test.YtmjebcaakmdgkaaDoorFns0
section
/- The plain laws of CodesOne and CodesPrefix. -/
namespace Go.Eng.RB
open Go.Eng Go.RowKit
set_option maxRecDepth 100000

theorem fits_one {k : Key} {f g : DForm} (hf : f ∈ forms) (hg : g ∈ forms) (h1 : fitsB f k = true) (h2 : fitsB g k = true) : f = g := by
  have a := found_of hf h1
  rw [found_of hg h2] at a
  exact (congrArg Prod.fst a).symm

def cnt (k : Key) (l : List DForm) : Nat := (l.filter fun f => fitsB f k).length

theorem cnt_le (k : Key) (l : List DForm) (hl : l.Pairwise fun f g => fitsB f k = true → fitsB g k = false) : cnt k l ≤ 1 := by
  unfold cnt
  have h := hl.filter (fun f => fitsB f k)
  generalize hm : l.filter (fun f => fitsB f k) = m at h
  have hall : ∀ f ∈ m, fitsB f k = true := fun f hf => by rw [← hm] at hf; simpa using (List.mem_filter.1 hf).2
  match m, h, hall with
  | [], _, _ => simp
  | [_], _, _ => simp
  | a :: b :: m, h, hall =>
    exfalso
    cases h with
    | cons h1 _ =>
      have := h1 b (by simp) (hall a (by simp))
      rw [hall b (by simp)] at this
      cases this

/-- The last that fits. -/
def lastF (k : Key) : List DForm → DForm → DForm
  | [], z => z
  | f :: l, z => lastF k l (if fitsB f k = true then f else z)

theorem lastF_none (k : Key) : ∀ (l : List DForm) (z : DForm), (∀ f ∈ l, fitsB f k = false) → lastF k l z = z
  | [], _, _ => rfl
  | f :: l, z, h => by
    unfold lastF
    rw [if_neg (by simp [h f (by simp)]), lastF_none k l z fun g hg => h g (by simp [hg])]

theorem lastF_found (k : Key) : ∀ (l : List DForm), (l.Pairwise fun f g => fitsB f k = true → fitsB g k = false) → ∀ z, lastF k l z = (match l.find? (fun f => fitsB f k) with | some f => f | none => z)
  | [], _, _ => rfl
  | f :: l, h, z => by
    cases h with
    | cons h1 h2 =>
      unfold lastF
      rw [List.find?_cons]
      cases hf : fitsB f k with
      | true =>
        rw [if_pos rfl, lastF_none k l f fun g hg => h1 g hg hf]
      | false =>
        rw [if_neg (by simp), lastF_found k l h2]

theorem one_h0 (x : Key) (d : Int) (k : Key) (hk : k = (x.1, (x.2.1, (x.2.2.1, d)))) : ∀ (m i : Nat), i + m = forms.length → ∀ (n : Nat) (z : DForm), n + m ≤ 1000 → n + cnt k (forms.drop i) = cnt k forms →
    lastF k (forms.drop i) z = (foundB k).1 → Ends (step4 x) true (step4 x (.h0 d n forms.length i z forms.length forms)) := by
  intro m
  have hf := forms_len
  induction m with
  | zero =>
    intro i hi n z hn h1 h2
    rw [List.drop_of_length_le (by omega)] at h1 h2
    have h1 : n = cnt k forms := by simpa [cnt] using h1
    have h2 : z = (foundB k).1 := h2
    have hle := cnt_le k forms one_fits
    have h3 : (foundB k).2 = ieq (n : Int) 1 := by
      cases hb : (foundB k).2 with
      | true =>
        obtain ⟨hm, hfit⟩ := found_some hb
        have : 0 < cnt k forms := by
          unfold cnt
          exact List.length_pos_of_mem (List.mem_filter.2 ⟨hm, by simpa using hfit⟩)
        rw [eq_comm, ieq_iff]; omega
      | false =>
        obtain ⟨_, hno⟩ := found_none hb
        have : cnt k forms = 0 := by
          unfold cnt
          rw [List.length_eq_zero_iff, List.filter_eq_nil_iff]
          intro f hm; simp [hno f hm]
        rw [eq_comm, ieq_no]; omega
    have h4 : ile (n : Int) 1 = true := by rw [ile_iff]; omega
    subst h2
    simp only [step4]
    rw [← hk]
    simp only [lt_no (show forms.length ≤ i by omega), ends_ite, ends_need, ends_ret, pre10_ok, fn10_ok, h4, h3, eqForm, pre18_ok, fn18_ok]
    simp
  | succ m ih =>
    intro i hi n z hn h1 h2
    have hi' : i < forms.length := by omega
    rw [List.drop_eq_getElem_cons hi'] at h1 h2
    simp only [step4]
    rw [← hk]
    simp only [lt_yes hi', ends_ite, ends_need, ends_jump, Int.toNat_natCast, Nat.zero_add, rdc_form forms i hi', pre12_ok, fn12_ok, one_more i (by omega), one_more n (by omega)]
    refine ⟨fun _ => ⟨by omega, by omega, by omega, trivial, fun h => ⟨by omega, by omega, by omega, ?_⟩, fun h => ?_⟩, (fun h => by cases h)⟩
    · refine ih (i + 1) (by omega) (n + 1) _ (by omega) ?_ ?_
      · have : cnt k (forms[i] :: forms.drop (i + 1)) = cnt k (forms.drop (i + 1)) + 1 := by
          unfold cnt; rw [List.filter_cons, if_pos h]; rfl
        omega
      · unfold lastF at h2; rw [if_pos h] at h2; exact h2
    · refine ih (i + 1) (by omega) n _ (by omega) ?_ ?_
      · have : cnt k (forms[i] :: forms.drop (i + 1)) = cnt k (forms.drop (i + 1)) := by
          unfold cnt; rw [List.filter_cons, if_neg (by simp [h])]
        omega
      · unfold lastF at h2; rw [if_neg (by simp [h])] at h2; exact h2

theorem codesOne (x : Key) (_w : TC.wf (.st (.int .u8) (.st (.int .u8) (.st (.int .u8) (.st1 (.int .i64))))) x) : pre4 x ∧ fn4 x = true := by
  have h : Ends (step4 x) true (tree4 x) := by
    unfold tree4
    simp only [ends_need, ends_jump, pre8_ok, fn8_ok]
    refine ⟨by decide, by decide, trivial, ?_⟩
    have h := one_h0 x (irem .i64 (iadd .i64 (irem .i64 x.2.2.2 8) 8) 8) _ rfl forms.length 0 (Nat.zero_add _) 0 zf (by rw [forms_len]; omega) (by simp) (by
      rw [List.drop_zero, lastF_found _ _ one_fits]
      unfold foundB
      generalize List.find? _ forms = o
      cases o <;> rfl)
    exact h
  exact ⟨⟨_, h⟩, endVal_eq h⟩

/-! ### CodesPrefix -/
theorem forms_pre : ∀ f ∈ forms, (f.1 = 0 ∨ f.1 = 102 ∨ f.1 = 243) ∧ f.2.1 ≤ 3 ∧ f.2.2.2.2.2.2.2.2.2.2.2.1 = ine f.1 0 ∧ f.2.2.2.2.2.2.2.2.2.2.2.1 = ieq f.2.2.2.2.2.2.2.1 16 ∧ f.2.2.2.2.2.1 ≠ 0 := by
  have : forms.all (fun f => (ieq f.1 0 || (ieq f.1 102 || ieq f.1 243)) && (ile f.2.1 3 && ((f.2.2.2.2.2.2.2.2.2.2.2.1 == ine f.1 0) && ((f.2.2.2.2.2.2.2.2.2.2.2.1 == ieq f.2.2.2.2.2.2.2.1 16) && ine f.2.2.2.2.2.1 0)))) = true := by decide +kernel
  intro f hf
  have := List.all_eq_true.1 this f hf
  simpa only [Bool.and_eq_true, Bool.or_eq_true, ieq_iff, ile_iff, beq_iff_eq, ine_iff] using this

theorem not_zf {f : DForm} (hf : f ∈ forms) : eqD CForm f zf = false := by
  cases h : eqD CForm f zf with
  | false => rfl
  | true =>
    have := (eqD_iff (c := CForm) rfl).1 h
    exact absurd (by rw [this]; rfl) (forms_pre f hf).2.2.2.2

theorem codesPrefix (x : Key) (_w : TC.wf (.st (.int .u8) (.st (.int .u8) (.st (.int .u8) (.st1 (.int .i64))))) x) : pre7 x ∧ fn7 x = true := by
  have hno : ∀ {y : Key3} {k : Key}, y.1 = k.1 → y.2.1 = k.2.1 → ((k.1 ≠ 0 ∧ k.1 ≠ 102 ∧ k.1 ≠ 243) ∨ 3 < k.2.1) → digitsB y = false ∧ (foundB k).2 = false := by
    intro y k e1 e2 h
    have key : ∀ f ∈ forms, ¬ (f.1 = k.1 ∧ f.2.1 = k.2.1) := by
      intro f hf ⟨a, b⟩
      obtain ⟨p1, p2, _⟩ := forms_pre f hf
      rcases h with ⟨h1, h2, h3⟩ | h
      · rcases p1 with p | p | p
        · exact h1 (by rw [← a, p])
        · exact h2 (by rw [← a, p])
        · exact h3 (by rw [← a, p])
      · omega
    constructor
    · unfold digitsB
      rw [List.any_eq_false]
      intro f hf hd
      rw [digB_eq] at hd
      simp only [Bool.and_eq_true, ieq_iff] at hd
      exact key f hf ⟨by rw [hd.1, e1], by rw [hd.2.1, e2]⟩
    · cases hb : (foundB k).2 with
      | false => rfl
      | true =>
        obtain ⟨hm, hfit⟩ := found_some hb
        unfold fitsB at hfit
        simp only [Bool.and_eq_true, ieq_iff] at hfit
        exact (key _ hm ⟨hfit.1, hfit.2.1⟩).elim
  have hz : (0, (0, (0, (false, (0, (0, (0, (0, (0, (0, (false, (false, (false, false))))))))))))) = zf := rfl
  have base : ∀ (b : Bool), (b = true → (foundB x).2 = (!(eqD CForm (foundB x).1 zf)) ∧ True) := fun b _ => by
    cases hb : (foundB x).2 with
    | true => rw [not_zf (found_some hb).1]; exact ⟨rfl, trivial⟩
    | false => rw [(found_none hb).1, eqForm]; exact ⟨rfl, trivial⟩
  have h1 := (base true rfl).1
  have h2 : (foundB x).2 = true → (foundB x).1.2.2.2.2.2.2.2.2.2.2.2.1 = ine x.1 0 ∧ (foundB x).1.2.2.2.2.2.2.2.2.2.2.2.1 = ieq (foundB x).1.2.2.2.2.2.2.2.1 16 ∧ ieq (foundB x).1.1 x.1 = true ∧ ieq (foundB x).1.2.1 x.2.1 = true := fun hb => by
    obtain ⟨hm, hfit⟩ := found_some hb
    unfold fitsB at hfit
    simp only [Bool.and_eq_true] at hfit
    obtain ⟨_, _, p3, p4, _⟩ := forms_pre _ hm
    exact ⟨by rw [p3, ieq_iff.1 hfit.1], p4, hfit.1, hfit.2.1⟩
  have h3 := fun (b : (ine x.1 0 = true ∧ ine x.1 102 = true ∧ ine x.1 243 = true) ∨ ilt 3 x.2.1 = true) => hno (y := (x.1, (x.2.1, x.2.2.1))) (k := x) rfl rfl (by
    rcases b with ⟨b1, b2, b3⟩ | b
    · exact .inl ⟨ine_iff.1 b1, ine_iff.1 b2, ine_iff.1 b3⟩
    · exact .inr (ilt_iff.1 b))
  unfold pre7 fn7 tree7
  simp only [fn10_ok, fn14_ok, fn18_ok, hz]
  have p10 := pre10_ok x
  have p14 := pre14_ok (x.1, (x.2.1, x.2.2.1))
  have p18 := pre18_ok ()
  revert p10 p14 p18
  generalize pre10 x = P10
  generalize pre14 (x.1, (x.2.1, x.2.2.1)) = P14
  generalize pre18 () = P18
  intro p10 p14 p18
  generalize (foundB x).2 = b at *
  generalize digitsB (x.1, (x.2.1, x.2.2.1)) = dg at *
  generalize (foundB x).1 = g at *
  generalize eqD CForm g zf = ez at *
  generalize ine x.1 0 = c0 at *
  generalize ine x.1 102 = c1 at *
  generalize ine x.1 243 = c2 at *
  generalize ilt 3 x.2.1 = c3 at *
  generalize g.2.2.2.2.2.2.2.2.2.2.2.1 = gv at *
  generalize ieq g.2.2.2.2.2.2.2.1 16 = gw at *
  generalize ieq g.1 x.1 = g1 at *
  generalize ieq g.2.1 x.2.1 = g2 at *
  clear hno hz base
  subst h1
  cases ez
  · obtain ⟨rfl, rfl, rfl, rfl⟩ := h2 rfl
    clear h2
    cases gv <;> cases c1 <;> cases c2 <;> cases c3 <;> cases dg <;> first
      | (exfalso; revert h3; decide)
      | (refine ⟨?_, rfl⟩; repeat (first | exact trivial | assumption | apply And.intro))
  · clear h2
    cases c0 <;> cases c1 <;> cases c2 <;> cases c3 <;> cases dg <;> first
      | (exfalso; revert h3; decide)
      | (refine ⟨?_, rfl⟩; repeat (first | exact trivial | assumption | apply And.intro))
end Go.Eng.RB
end
