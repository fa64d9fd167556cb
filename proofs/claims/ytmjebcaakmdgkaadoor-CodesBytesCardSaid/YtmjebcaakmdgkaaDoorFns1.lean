/- A part of the proof that the laws of this seat hold. Conditions: none beyond the row. -/
import Derived.Test.YtmjebcaakmdgkaaDoorFns0
section
/- The plain laws of CodesOne and CodesPrefix. -/
namespace Go.Eng.RB
open Go.Eng Go.RowKit
set_option maxRecDepth 100000

theorem fits_one {k : Key} {f g : DForm} (hf : f ∈ forms) (hg : g ∈ forms) (h1 : fitsB f k = true) (h2 : fitsB g k = true) : f = g := by
  have a := found_of hf h1
  rw [found_of hg h2] at a
  exact (congrArg Prod.fst a).symm

def cnt (k : Key) (l : List DForm) : Nat := (l.filter fun f => fitsB f k).length

theorem cnt_le (k : Key) (l : List DForm) (hl : l.Pairwise fun f g => fitsB f k = true → fitsB g k = false) : cnt k l ≤ 1 := by
  unfold cnt
  have h := hl.filter (fun f => fitsB f k)
  generalize hm : l.filter (fun f => fitsB f k) = m at h
  have hall : ∀ f ∈ m, fitsB f k = true := fun f hf => by rw [← hm] at hf; simpa using (List.mem_filter.1 hf).2
  match m, h, hall with
  | [], _, _ => simp
  | [_], _, _ => simp
  | a :: b :: m, h, hall =>
    exfalso
    cases h with
    | cons h1 _ =>
      have := h1 b (by simp) (hall a (by simp))
      rw [hall b (by simp)] at this
      cases this

/-- The last that fits. -/
def lastF (k : Key) : List DForm → DForm → DForm
  | [], z => z
  | f :: l, z => lastF k l (if fitsB f k = true then f else z)

theorem lastF_none (k : Key) : ∀ (l : List DForm) (z : DForm), (∀ f ∈ l, fitsB f k = false) → lastF k l z = z
  | [], _, _ => rfl
  | f :: l, z, h => by
    unfold lastF
    rw [if_neg (by simp [h f (by simp)]), lastF_none k l z fun g hg => h g (by simp [hg])]

theorem lastF_found (k : Key) : ∀ (l : List DForm), (l.Pairwise fun f g => fitsB f k = true → fitsB g k = false) → ∀ z, lastF k l z = (match l.find? (fun f => fitsB f k) with | some f => f | none => z)
  | [], _, _ => rfl
  | f :: l, h, z => by
    cases h with
    | cons h1 h2 =>
      unfold lastF
      rw [List.find?_cons]
      cases hf : fitsB f k with
      | true =>
        rw [if_pos rfl, lastF_none k l f fun g hg => h1 g hg hf]
      | false =>
        rw [if_neg (by simp), lastF_found k l h2]

theorem one_h0 (x : Key) (d : Int) (k : Key) (hk : k = (x.1, (x.2.1, (x.2.2.1, d)))) : ∀ (m i : Nat), i + m = forms.length → ∀ (n : Nat) (z : DForm), n + m ≤ 1000 → n + cnt k (forms.drop i) = cnt k forms →
    lastF k (forms.drop i) z = (foundB k).1 → Ends (step4 x) true (step4 x (.h0 d n forms.length i z forms.length forms)) := by
  intro m
  have hf := forms_len
  induction m with
  | zero =>
    intro i hi n z hn h1 h2
    rw [List.drop_of_length_le (by omega)] at h1 h2
    have h1 : n = cnt k forms := by simpa [cnt] using h1
    have h2 : z = (foundB k).1 := h2
    have hle := cnt_le k forms one_fits
    have h3 : (foundB k).2 = ieq (n : Int) 1 := by
      cases hb : (foundB k).2 with
      | true =>
        obtain ⟨hm, hfit⟩ := found_some hb
        have : 0 < cnt k forms := by
          unfold cnt
          exact List.length_pos_of_mem (List.mem_filter.2 ⟨hm, by simpa using hfit⟩)
        rw [eq_comm, ieq_iff]; omega
      | false =>
        obtain ⟨_, hno⟩ := found_none hb
        have : cnt k forms = 0 := by
          unfold cnt
          rw [List.length_eq_zero_iff, List.filter_eq_nil_iff]
          intro f hm; simp [hno f hm]
        rw [eq_comm, ieq_no]; omega
    have h4 : ile (n : Int) 1 = true := by rw [ile_iff]; omega
    subst h2
    simp only [step4]
    rw [← hk]
    simp only [lt_no (show forms.length ≤ i by omega), ends_ite, ends_need, ends_ret, pre10_ok, fn10_ok, h4, h3, eqForm, pre18_ok, fn18_ok]
    simp
  | succ m ih =>
    intro i hi n z hn h1 h2
    have hi' : i < forms.length := by omega
    rw [List.drop_eq_getElem_cons hi'] at h1 h2
    simp only [step4]
    rw [← hk]
    simp only [lt_yes hi', ends_ite, ends_need, ends_jump, Int.toNat_natCast, Nat.zero_add, rdc_form forms i hi', pre12_ok, fn12_ok, one_more i (by omega), one_more n (by omega)]
    refine ⟨fun _ => ⟨by omega, by omega, by omega, trivial, fun h => ⟨by omega, by omega, by omega, ?_⟩, fun h => ?_⟩, (fun h => by cases h)⟩
    · refine ih (i + 1) (by omega) (n + 1) _ (by omega) ?_ ?_
      · have : cnt k (forms[i] :: forms.drop (i + 1)) = cnt k (forms.drop (i + 1)) + 1 := by
          unfold cnt; rw [List.filter_cons, if_pos h]; rfl
        omega
      · unfold lastF at h2; rw [if_pos h] at h2; exact h2
    · refine ih (i + 1) (by omega) n _ (by omega) ?_ ?_
      · have : cnt k (forms[i] :: forms.drop (i + 1)) = cnt k (forms.drop (i + 1)) := by
          unfold cnt; rw [List.filter_cons, if_neg (by simp [h])]
        omega
      · unfold lastF at h2; rw [if_neg (by simp [h])] at h2; exact h2

theorem codesOne (x : Key) (_w : TC.wf (.st (.int .u8) (.st (.int .u8) (.st (.int .u8) (.st1 (.int .i64))))) x) : pre4 x ∧ fn4 x = true := by
  have h : Ends (step4 x) true (tree4 x) := by
    unfold tree4
    simp only [ends_need, ends_jump, pre8_ok, fn8_ok]
    refine ⟨by decide, by decide, trivial, ?_⟩
    have h := one_h0 x (irem .i64 (iadd .i64 (irem .i64 x.2.2.2 8) 8) 8) _ rfl forms.length 0 (Nat.zero_add _) 0 zf (by rw [forms_len]; omega) (by simp) (by
      rw [List.drop_zero, lastF_found _ _ one_fits]
      unfold foundB
      generalize List.find? _ forms = o
      cases o <;> rfl)
    exact h
  exact ⟨⟨_, h⟩, endVal_eq h⟩

/-! ### CodesPrefix -/
theorem forms_pre : ∀ f ∈ forms, (f.1 = 0 ∨ f.1 = 102 ∨ f.1 = 243) ∧ f.2.1 ≤ 3 ∧ f.2.2.2.2.2.2.2.2.2.2.2.1 = ine f.1 0 ∧ f.2.2.2.2.2.2.2.2.2.2.2.1 = ieq f.2.2.2.2.2.2.2.1 16 ∧ f.2.2.2.2.2.1 ≠ 0 := by
  have : forms.all (fun f => (ieq f.1 0 || (ieq f.1 102 || ieq f.1 243)) && (ile f.2.1 3 && ((f.2.2.2.2.2.2.2.2.2.2.2.1 == ine f.1 0) && ((f.2.2.2.2.2.2.2.2.2.2.2.1 == ieq f.2.2.2.2.2.2.2.1 16) && ine f.2.2.2.2.2.1 0)))) = true := by decide +kernel
  intro f hf
  have := List.all_eq_true.1 this f hf
  simpa only [Bool.and_eq_true, Bool.or_eq_true, ieq_iff, ile_iff, beq_iff_eq, ine_iff] using this

theorem not_zf {f : DForm} (hf : f ∈ forms) : eqD CForm f zf = false := by
  cases h : eqD CForm f zf with
  | false => rfl
  | true =>
    have := (eqD_iff (c := CForm) rfl).1 h
    exact absurd (by rw [this]; rfl) (forms_pre f hf).2.2.2.2

theorem codesPrefix (x : Key) (_w : TC.wf (.st (.int .u8) (.st (.int .u8) (.st (.int .u8) (.st1 (.int .i64))))) x) : pre7 x ∧ fn7 x = true := by
  have hno : ∀ {y : Key3} {k : Key}, y.1 = k.1 → y.2.1 = k.2.1 → ((k.1 ≠ 0 ∧ k.1 ≠ 102 ∧ k.1 ≠ 243) ∨ 3 < k.2.1) → digitsB y = false ∧ (foundB k).2 = false := by
    intro y k e1 e2 h
    have key : ∀ f ∈ forms, ¬ (f.1 = k.1 ∧ f.2.1 = k.2.1) := by
      intro f hf ⟨a, b⟩
      obtain ⟨p1, p2, _⟩ := forms_pre f hf
      rcases h with ⟨h1, h2, h3⟩ | h
      · rcases p1 with p | p | p
        · exact h1 (by rw [← a, p])
        · exact h2 (by rw [← a, p])
        · exact h3 (by rw [← a, p])
      · omega
    constructor
    · unfold digitsB
      rw [List.any_eq_false]
      intro f hf hd
      rw [digB_eq] at hd
      simp only [Bool.and_eq_true, ieq_iff] at hd
      exact key f hf ⟨by rw [hd.1, e1], by rw [hd.2.1, e2]⟩
    · cases hb : (foundB k).2 with
      | false => rfl
      | true =>
        obtain ⟨hm, hfit⟩ := found_some hb
        unfold fitsB at hfit
        simp only [Bool.and_eq_true, ieq_iff] at hfit
        exact (key _ hm ⟨hfit.1, hfit.2.1⟩).elim
  have hz : (0, (0, (0, (false, (0, (0, (0, (0, (0, (0, (false, (false, (false, false))))))))))))) = zf := rfl
  have base : ∀ (b : Bool), (b = true → (foundB x).2 = (!(eqD CForm (foundB x).1 zf)) ∧ True) := fun b _ => by
    cases hb : (foundB x).2 with
    | true => rw [not_zf (found_some hb).1]; exact ⟨rfl, trivial⟩
    | false => rw [(found_none hb).1, eqForm]; exact ⟨rfl, trivial⟩
  have h1 := (base true rfl).1
  have h2 : (foundB x).2 = true → (foundB x).1.2.2.2.2.2.2.2.2.2.2.2.1 = ine x.1 0 ∧ (foundB x).1.2.2.2.2.2.2.2.2.2.2.2.1 = ieq (foundB x).1.2.2.2.2.2.2.2.1 16 ∧ ieq (foundB x).1.1 x.1 = true ∧ ieq (foundB x).1.2.1 x.2.1 = true := fun hb => by
    obtain ⟨hm, hfit⟩ := found_some hb
    unfold fitsB at hfit
    simp only [Bool.and_eq_true] at hfit
    obtain ⟨_, _, p3, p4, _⟩ := forms_pre _ hm
    exact ⟨by rw [p3, ieq_iff.1 hfit.1], p4, hfit.1, hfit.2.1⟩
  have h3 := fun (b : (ine x.1 0 = true ∧ ine x.1 102 = true ∧ ine x.1 243 = true) ∨ ilt 3 x.2.1 = true) => hno (y := (x.1, (x.2.1, x.2.2.1))) (k := x) rfl rfl (by
    rcases b with ⟨b1, b2, b3⟩ | b
    · exact .inl ⟨ine_iff.1 b1, ine_iff.1 b2, ine_iff.1 b3⟩
    · exact .inr (ilt_iff.1 b))
  unfold pre7 fn7 tree7
  simp only [fn10_ok, fn14_ok, fn18_ok, hz]
  have p10 := pre10_ok x
  have p14 := pre14_ok (x.1, (x.2.1, x.2.2.1))
  have p18 := pre18_ok ()
  revert p10 p14 p18
  generalize pre10 x = P10
  generalize pre14 (x.1, (x.2.1, x.2.2.1)) = P14
  generalize pre18 () = P18
  intro p10 p14 p18
  generalize (foundB x).2 = b at *
  generalize digitsB (x.1, (x.2.1, x.2.2.1)) = dg at *
  generalize (foundB x).1 = g at *
  generalize eqD CForm g zf = ez at *
  generalize ine x.1 0 = c0 at *
  generalize ine x.1 102 = c1 at *
  generalize ine x.1 243 = c2 at *
  generalize ilt 3 x.2.1 = c3 at *
  generalize g.2.2.2.2.2.2.2.2.2.2.2.1 = gv at *
  generalize ieq g.2.2.2.2.2.2.2.1 16 = gw at *
  generalize ieq g.1 x.1 = g1 at *
  generalize ieq g.2.1 x.2.1 = g2 at *
  clear hno hz base
  subst h1
  cases ez
  · obtain ⟨rfl, rfl, rfl, rfl⟩ := h2 rfl
    clear h2
    cases gv <;> cases c1 <;> cases c2 <;> cases c3 <;> cases dg <;> first
      | (exfalso; revert h3; decide)
      | (refine ⟨?_, rfl⟩; repeat (first | exact trivial | assumption | apply And.intro))
  · clear h2
    cases c0 <;> cases c1 <;> cases c2 <;> cases c3 <;> cases dg <;> first
      | (exfalso; revert h3; decide)
      | (refine ⟨?_, rfl⟩; repeat (first | exact trivial | assumption | apply And.intro))
end Go.Eng.RB
end
section
/- The plain laws of CodesEach and CodesBytes. -/
namespace Go.Eng.RB
open Go.Eng Go.RowKit
set_option maxRecDepth 100000

/-! ### CodesEach -/
theorem rem8 (x : Int) (_h : -9223372036854775808 ≤ x ∧ x ≤ 9223372036854775807) : ∃ r : Nat, irem .i64 (iadd .i64 (irem .i64 x 8) 8) 8 = r ∧ r < 8 := by
  have h1 : irem .i64 x 8 = x.tmod 8 := rfl
  have h2 : -8 < x.tmod 8 ∧ x.tmod 8 < 8 := by
    have := Int.tmod_lt_of_pos x (b := 8) (by omega)
    have h3 : -8 < x.tmod 8 := by
      have := Int.lt_tmod_of_pos x (b := 8) (by omega)
      simpa using this
    exact ⟨h3, this⟩
  rw [h1, iadd_i64 (by omega) (by omega)]
  have h3 : irem .i64 (x.tmod 8 + 8) 8 = (x.tmod 8 + 8).tmod 8 := rfl
  rw [h3, Int.tmod_eq_emod_of_nonneg (by omega)]
  exact ⟨((x.tmod 8 + 8) % 8).toNat, by omega, by omega⟩

def opR (f : DForm) (r : Int) : Int := if f.2.2.2.1 = true then iadd .u8 f.2.2.1 (iconv .u8 r) else f.2.2.1
def digD (f : DForm) (d : Int) : Int := if ine f.2.2.2.2.1 (-1) = true then f.2.2.2.2.1 else d

theorem forms_plus : ∀ f ∈ forms, ∀ r : Nat, r < 8 → codeB f (opR f r) = true := by
  have : forms.all (fun f => (List.range 8).all fun r => codeB f (opR f r)) = true := by decide +kernel
  intro f hf r hr
  have := List.all_eq_true.1 this f hf
  exact List.all_eq_true.1 this r (List.mem_range.2 hr)

theorem forms_do : ∀ f ∈ forms, 0 < f.2.2.2.2.2.1 ∧ f.2.2.2.2.2.1 < 40 := by
  have : forms.all (fun f => ilt 0 f.2.2.2.2.2.1 && ilt f.2.2.2.2.2.1 40) = true := by decide +kernel
  intro f hf
  have := List.all_eq_true.1 this f hf
  simpa only [Bool.and_eq_true, ilt_iff] using this

theorem each_fits {f : DForm} (hf : f ∈ forms) {r : Nat} (hr : r < 8) (d : Int) : fitsB f (f.1, (f.2.1, (opR f r, digD f d))) = true := by
  unfold fitsB
  rw [ieq_iff.2 rfl, ieq_iff.2 rfl, forms_plus f hf r hr]
  simp only [Bool.true_and, Bool.or_eq_true, ieq_iff]
  unfold digD
  split
  · exact .inr rfl
  · rename_i h; rw [Bool.not_eq_true, ine_no] at h; exact .inl h

theorem each_found {f : DForm} (hf : f ∈ forms) {r : Nat} (hr : r < 8) (d : Int) : foundB (f.1, (f.2.1, (opR f r, digD f d))) = (f, true) := found_of hf (each_fits hf hr d)

theorem each_digits {f : DForm} (hf : f ∈ forms) {r : Nat} (hr : r < 8) : digitsB (f.1, (f.2.1, opR f r)) = ine f.2.2.2.2.1 (-1) := by
  cases h : ine f.2.2.2.2.1 (-1) with
  | true =>
    unfold digitsB
    rw [List.any_eq_true]
    refine ⟨f, hf, ?_⟩
    rw [digB_eq, ieq_iff.2 rfl, ieq_iff.2 rfl, forms_plus f hf r hr, h]; rfl
  | false =>
    unfold digitsB
    rw [List.any_eq_false]
    intro g hg hd
    unfold digB at hd
    rw [Bool.and_eq_true] at hd
    have h1 := each_fits hf hr g.2.2.2.2.1
    have e : digD f g.2.2.2.2.1 = g.2.2.2.2.1 := by unfold digD; rw [h]; rfl
    rw [e] at h1
    have := fits_one hf hg h1 hd.2
    subst this
    rw [h] at hd
    cases hd.1

def hasOf (l : List DForm) (h : List Bool) : List Bool := l.foldl (fun h f => h.set f.2.2.2.2.2.1.toNat true) h
theorem has_all : hasOf forms (List.replicate 40 false) = false :: List.replicate 39 true := by decide +kernel

theorem each_h1 (x : Int × Int) : ∀ (m i : Nat), i + m = 40 → 1 ≤ i → Ends (step5 x) true (step5 x (.h1 i (false :: List.replicate 39 true))) := by
  intro m
  induction m with
  | zero =>
    intro i hi h1
    have e : ilt (i : Int) 40 = false := by rw [ilt_no]; omega
    have e0 : rdc .bool (false :: List.replicate 39 true) 0 = false := rfl
    simp only [step5]
    simp only [e, e0, ends_ite, ends_need, ends_ret, pre18_ok, fn18_ok]
    simp
  | succ m ih =>
    intro i hi h1
    have e : ilt (i : Int) 40 = true := by rw [ilt_iff]; omega
    have e0 : rdc .bool (false :: List.replicate 39 true) i = true := by
      rw [rdc_at (c := .bool) (show i < (false :: List.replicate 39 true).length by simp; omega)]
      obtain ⟨j, rfl⟩ : ∃ j, i = j + 1 := ⟨i - 1, by omega⟩
      rw [List.getElem_cons_succ, List.getElem_replicate]
    simp only [step5]
    simp only [e, e0, ends_ite, ends_need, ends_jump, Int.toNat_natCast, one_more i (by omega)]
    exact ⟨fun _ => ⟨by omega, by omega, by omega, (fun h => by cases h), fun _ => ih (i + 1) (by omega) (by omega)⟩, (fun h => by cases h)⟩

theorem each_h0 (x : Int × Int) (r d : Nat) (hr : r < 8) : ∀ (m i : Nat), i + m = forms.length → ∀ (h : List Bool), h.length = 40 → hasOf (forms.drop i) h = (false :: List.replicate 39 true) →
    Ends (step5 x) true (step5 x (.h0 r d forms.length i h forms.length forms)) := by
  intro m
  have hf := forms_len
  induction m with
  | zero =>
    intro i hi h hl hh
    rw [List.drop_of_length_le (by omega)] at hh
    have hh : h = _ := hh
    subst hh
    simp only [step5]
    simp only [lt_no (show forms.length ≤ i by omega), ends_ite, ends_jump]
    exact ⟨(fun h => by cases h), fun _ => each_h1 x 39 1 rfl (by omega)⟩
  | succ m ih =>
    intro i hi h hl hh
    have hi' : i < forms.length := by omega
    have hm := List.getElem_mem hi'
    rw [List.drop_eq_getElem_cons hi'] at hh
    have hnext := ih (i + 1) (by omega) (h.set forms[i].2.2.2.2.2.1.toNat true) (by simpa using hl) hh
    obtain ⟨d1, d2⟩ := forms_do _ hm
    have hfound := each_found hm hr d
    have hdig := each_digits hm hr
    have e40 : ile 40 forms[i].2.2.2.2.2.1 = false := by rw [ile_no]; exact d2
    have t40 : forms[i].2.2.2.2.2.1.toNat < 40 := by omega
    simp only [step5]
    simp only [lt_yes hi', ends_ite, Int.toNat_natCast, Nat.zero_add, rdc_form forms i hi']
    revert hnext hfound hdig e40 t40 d1 d2
    generalize forms[i] = f at *
    intro hnext d1 d2 hfound hdig e40 t40
    refine ⟨fun _ => ?_, (fun h => by cases h)⟩
    unfold opR digD at hfound
    unfold opR at hdig
    have hd0 : 0 ≤ f.2.2.2.2.2.1 := by omega
    have e1 : ((i + 1 : Nat) : Int) = (i : Int) + 1 := by omega
    rw [e1] at hnext
    cases hp : f.2.2.2.1 <;> cases hg : ine f.2.2.2.2.1 (-1) <;> rw [hp, hg] at hfound <;> rw [hp, hg] at hdig <;> simp only [Bool.false_eq_true, if_false, if_true] at hfound hdig <;>
      simp only [ends_need, ends_ite, ends_jump, ends_ret, pre10_ok, fn10_ok, hfound, hdig, eqForm, e40, pre14_ok, fn14_ok, one_more i (by omega)] <;>
      simp [hd0, d2, t40, hi', hnext]

theorem codesEach (x : Int × Int) (w : TC.wf (.st (.int .i64) (.st1 (.int .i64))) x) : pre5 x ∧ fn5 x = true := by
  obtain ⟨w1, w2⟩ := w
  obtain ⟨r, er, hr⟩ := rem8 x.1 (int_of w1)
  obtain ⟨d, ed, _⟩ := rem8 x.2 (int_of w2)
  have h : Ends (step5 x) true (tree5 x) := by
    unfold tree5
    simp only [ends_need, ends_jump, pre8_ok, fn8_ok, er, ed]
    exact ⟨by decide, by decide, by decide, by decide, trivial, each_h0 x r d hr _ 0 (Nat.zero_add _) _ (by simp) (by simpa using has_all)⟩
  exact ⟨⟨_, h⟩, endVal_eq h⟩

/-! ### CodesBytes -/
theorem rem_len (x : Int) (n : Nat) (hn : 0 < n) (hb : n ≤ 1000) : ∃ r : Nat, irem .i64 (iadd .i64 (irem .i64 x n) n) n = r ∧ r < n := by
  have h1 : irem .i64 x n = x.tmod n := rfl
  have h2 : -(n : Int) < x.tmod n ∧ x.tmod n < n := ⟨Int.lt_tmod_of_pos x (b := n) (by omega), Int.tmod_lt_of_pos x (b := n) (by omega)⟩
  rw [h1, iadd_i64 (by omega) (by omega)]
  have h3 : irem .i64 (x.tmod n + n) n = (x.tmod n + n).tmod n := rfl
  rw [h3, Int.tmod_eq_emod_of_nonneg (by omega)]
  have h4 := Int.emod_nonneg (x.tmod n + n) (b := n) (by omega)
  have h5 := Int.emod_lt_of_pos (x.tmod n + n) (b := n) (by omega)
  exact ⟨((x.tmod n + n) % n).toNat, by omega, by omega⟩

theorem bytes_facts {f : DForm} (hf : f ∈ forms) : ilt 3 f.2.1 = false ∧ 0 ≤ f.2.1 ∧ f.2.1 < 4 ∧ ine ((bytesB f).length : Int) (rdc (.int .i64) [1, 2, 3, 3] f.2.1.toNat) = false ∧
    (∃ n : Nat, (bytesB f).length = n + 1 ∧ n < 10 ∧ ine (rdc (.int .u8) (bytesB f) n) f.2.2.1 = false ∧ (n ≠ 0 → ine (rdc (.int .u8) (bytesB f) 0) 15 = false)) := by
  obtain ⟨_, h3, _⟩ := forms_pre f hf
  have h0 := (forms_map f hf).1
  have hm : f.2.1 = 0 ∨ f.2.1 = 1 ∨ f.2.1 = 2 ∨ f.2.1 = 3 := by omega
  have e : ∀ a : Int, ine a a = false := fun a => ine_no.2 rfl
  rcases hm with h | h | h | h <;> unfold bytesB <;> rw [h]
  · exact ⟨rfl, by omega, by omega, rfl, 0, rfl, by omega, e _, fun h => absurd rfl h⟩
  · exact ⟨rfl, by omega, by omega, rfl, 1, rfl, by omega, e _, fun _ => rfl⟩
  · exact ⟨rfl, by omega, by omega, rfl, 2, rfl, by omega, e _, fun _ => rfl⟩
  · exact ⟨rfl, by omega, by omega, rfl, 2, rfl, by omega, e _, fun _ => rfl⟩

theorem codesBytes (x : Int) (_w : TC.wf (.st1 (.int .i64)) x) : pre6 x ∧ fn6 x = true := by
  obtain ⟨r, er, hr⟩ := rem_len x forms.length (by decide) (by decide)
  have hm := List.getElem_mem hr
  obtain ⟨b1, b2, b3, b4, n, b5, b6, b7, b8⟩ := bytes_facts hm
  have hmap := forms_map _ hm
  have en : ieq (forms.length : Int) 0 = false := by rw [ieq_no, forms_len]; omega
  have el : isub .i64 ((n + 1 : Nat) : Int) 1 = (n : Int) := by rw [isub_i64] <;> omega
  have es : ∀ a : ByteArray, (a == a) = true := fun a => (beq_str a a).2 rfl
  have et : (bytesB forms[r]).take (n + 1) = bytesB forms[r] := List.take_of_length_le (by omega)
  unfold pre6 fn6 tree6
  simp only [ok_ite, ok_need, ok_ret, val_ite, val_need, val_ret, pre8_ok, fn8_ok, er, en, Int.toNat_natCast, Nat.zero_add, rdc_form forms r hr]
  generalize forms[r] = f at *
  have p16 := pre16_ok f hmap
  simp only [fn16_ok f hmap, p16]
  rw [b5] at b4
  simp only [b5, b1, b4, el, b7, Int.toNat_natCast, et, es, eqForm, pre18_ok, fn18_ok, lt_yes hr]
  rcases Nat.eq_zero_or_pos n with rfl | hn
  · have e1 : ilt 1 ((0 + 1 : Nat) : Int) = false := rfl
    simp only [e1]
    have := forms_len
    simp
    exact ⟨(fun h => by rw [h] at this; cases this), hr, b2, b3, hr⟩
  · have e1 : ilt 1 ((n + 1 : Nat) : Int) = true := by rw [ilt_iff]; omega
    have b9 := b8 (by omega)
    simp only [e1, b9]
    have := forms_len
    simp
    exact ⟨(fun h => by rw [h] at this; cases this), hr, b2, b3, by omega, hr⟩
end Go.Eng.RB
end
