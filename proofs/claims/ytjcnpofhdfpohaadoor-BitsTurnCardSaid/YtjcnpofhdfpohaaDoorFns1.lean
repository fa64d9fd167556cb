/- A part of the proof that the laws of this seat hold. Conditions: none beyond the row. -/
import Derived.Test.YtjcnpofhdfpohaaDoorFns0
section
/- The plain law of BitsTurn. -/
namespace Go.Eng.RA
open Go.Eng
set_option maxRecDepth 100000

/-- How many of the lowest bits are ones. -/
def pc (x : Nat) : Nat → Nat
  | 0 => 0
  | i + 1 => pc x i + x / 2 ^ i % 2

theorem pc_add (x i : Nat) : ∀ j, pc x (i + j) = pc x i + pc (x / 2 ^ i) j
  | 0 => rfl
  | j + 1 => by
    rw [← Nat.add_assoc, pc, pc_add x i j, pc, Nat.div_div_eq_div_mul, ← Nat.pow_add]; omega

theorem pc_zero : ∀ j, pc 0 j = 0
  | 0 => rfl
  | j + 1 => by rw [pc, pc_zero j, Nat.zero_div]

theorem pc_mod (x i : Nat) : ∀ j, j ≤ i → pc (x % 2 ^ i) j = pc x j
  | 0, _ => rfl
  | j + 1, h => by
    rw [pc, pc, pc_mod x i j (by omega)]
    congr 1
    have e : 2 ^ i = 2 ^ j * (2 * 2 ^ (i - j - 1)) := by
      rw [← Nat.pow_succ', ← Nat.pow_add]; congr 1; omega
    rw [e, Nat.mod_mul_right_div_self, Nat.mod_mul_right_mod]

theorem pc_rot {W x k : Nat} (hx : x < 2 ^ W) (hk : k ≤ W) : pc (rot W x k) W = pc x W := by
  have h1 := rot_hi hx hk
  have e1 : pc (rot W x k) W = pc (rot W x k) (k + (W - k)) := by congr 1; omega
  have e2 : pc x W = pc x ((W - k) + k) := by congr 1; omega
  have hp : 0 < 2 ^ k := Nat.pow_pos (by decide)
  have m1 : rot W x k % 2 ^ k = x / 2 ^ (W - k) := by
    unfold rot; rw [Nat.mul_add_mod, Nat.mod_eq_of_lt h1]
  have m2 : rot W x k / 2 ^ k = x % 2 ^ (W - k) := by
    unfold rot; rw [Nat.mul_add_div hp, Nat.div_eq_of_lt h1]; rfl
  rw [e1, e2, pc_add, pc_add, m2, ← pc_mod _ k k (Nat.le_refl _), m1, pc_mod _ _ _ (Nat.le_refl _)]
  omega

theorem pc_64 {W x : Nat} (hx : x < 2 ^ W) (hW : W ≤ 64) : pc x 64 = pc x W := by
  have e : pc x 64 = pc x (W + (64 - W)) := by congr 1; omega
  rw [e, pc_add, Nat.div_eq_of_lt hx, pc_zero]; rfl

theorem pc_le (x : Nat) : ∀ i, pc x i ≤ i
  | 0 => Nat.le_refl _
  | i + 1 => by have := pc_le x i; rw [pc]; omega

theorem low_bit (b : Nat) : iand .u64 (b : Int) 1 = ((b % 2 : Nat) : Int) := by
  have e1 : iand .u64 (b : Int) 1 = IntKind.wrap .u64 ((BitVec.ofInt 64 (b : Int) &&& BitVec.ofInt 64 ((1 : Nat) : Int)).toNat : Nat) := rfl
  rw [e1, BitVec.toNat_and, ofInt_nat (b := 64) (a := 1) (by decide), BitVec.ofInt_natCast, BitVec.toNat_ofNat, Nat.and_one_is_mod, wrap_u64]
  have : b % 2 ^ 64 % 2 = b % 2 := Nat.mod_mod_of_dvd _ (by decide)
  rw [this]; omega

theorem bit_at (x i : Nat) (hi : i < 64) : iconv .i64 (iand .u64 (ishr .u64 (x : Int) (iconv .u64 (i : Int))) 1) = ((x / 2 ^ i % 2 : Nat) : Int) := by
  have hc : iconv .u64 (i : Int) = (i : Int) := by unfold iconv; rw [wrap_u64]; omega
  rw [hc, ishr_u64 hi, low_bit]
  unfold iconv
  exact i64_small (by omega) (by omega)

theorem bitsTurn (x0 x1 x2 x3 : Int) (w0 : (Lit.int .u64 x0).wf = true) (w1 : (Lit.int .i64 x1).wf = true) (w2 : (Lit.int .i64 x2).wf = true) :
    Ends (step6 (x0, (x1, (x2, x3)))) true (tree6 (x0, (x1, (x2, x3)))) := by
  obtain ⟨a, rfl, ha⟩ := u64_nat w0
  have hn := i64_rng w1
  have hm := i64_rng w2
  have hw := wd_pos x3
  have hwk := wakes
  unfold tree6
  by_cases g1 : 1099511627776 < imax x1 x2
  · have : ilt 1099511627776 (imax x1 x2) = true := by simp [ilt, g1]
    simp only [this, show ((true : Bool) == false) = false from rfl]
    refine .no _ _ (.need _ _ hwk.1 ?_)
    rw [hwk.2]; exact .ret
  · have g1' : ilt 1099511627776 (imax x1 x2) = false := by simp [ilt]; omega
    simp only [g1', show ((false : Bool) == false) = true from rfl]
    refine .yes _ _ ?_
    by_cases g2 : imin x1 x2 < -1099511627776
    · have : ilt (imin x1 x2) (-1099511627776) = true := by simp [ilt, g2]
      simp only [this]
      refine .yes _ _ (.need _ _ hwk.1 ?_)
      rw [hwk.2]; exact .ret
    · have g2' : ilt (imin x1 x2) (-1099511627776) = false := by simp [ilt]; omega
      have b1 : -1099511627776 ≤ x1 ∧ x1 ≤ 1099511627776 ∧ -1099511627776 ≤ x2 ∧ x2 ≤ 1099511627776 := by
        unfold imax at g1; unfold imin at g2; split at g1 <;> split at g2 <;> omega
      simp only [g2']
      have hall : imul .i64 8 (imin (imax x3 1) 8) = ((8 * wd x3 : Nat) : Int) := bits_all x3
      have t1 := turn_eq ha x1 x3
      have ht64 : turn a x1 x3 < 18446744073709551616 := Nat.lt_of_lt_of_le (turn_lt a x1 x3) (pw_le x3)
      have t2 := turn_eq ht64 x2 x3
      have hadd : iadd .i64 x1 x2 = x1 + x2 := by unfold iadd; exact i64_small (by omega) (by omega)
      have t3 := turn_eq ha (x1 + x2) x3
      have t4 := turn_eq ha ((8 * wd x3 : Nat) : Int) x3
      have hneg : ineg .i64 ((8 * wd x3 : Nat) : Int) = -((8 * wd x3 : Nat) : Int) := by unfold ineg; rw [i64_small (by omega) (by omega)]; omega
      have t5 := turn_eq ha (-((8 * wd x3 : Nat) : Int)) x3
      have q1 : turn (turn a x1 x3) x2 x3 = turn a (x1 + x2) x3 := turn_turn a x1 x2 (x1 + x2) x3 rfl
      have q2 : turn a ((8 * wd x3 : Nat) : Int) x3 = cut a x3 := turn_full a _ x3 (Int.emod_self)
      have q3 : turn a (-((8 * wd x3 : Nat) : Int)) x3 = cut a x3 := turn_full a _ x3 (by rw [Int.neg_emod_self])
      have hpc : pc (turn a x1 x3) 64 = pc (cut a x3) 64 := by
        rw [pc_64 (turn_lt a x1 x3) (by omega), pc_64 (cut_lt a x3) (by omega)]
        exact pc_rot (cut_lt a x3) (Nat.le_of_lt (tn_lt x1 x3))
      have re : ∀ z : Int, (ieq z z == true) = true := fun z => by simp [ieq]
      refine .no _ _ (.need _ _ t1.1 (.jump _ ?_))
      rw [hall, t1.2]
      have go : ∀ (d i : Nat), 64 = i + d → Ends (step6 ((a : Int), (x1, (x2, x3)))) true (step6 ((a : Int), (x1, (x2, x3))) (.h0 ((8 * wd x3 : Nat) : Int) ((turn a x1 x3 : Nat) : Int) ((pc (turn a x1 x3) i : Int) - (pc (cut a x3) i : Int)) (i : Int))) := by
        intro d
        induction d with
        | zero =>
          intro i hi
          obtain rfl : i = 64 := by omega
          have hc : ilt ((64 : Nat) : Int) 64 = false := by decide
          have hz : ieq ((pc (turn a x1 x3) 64 : Int) - (pc (cut a x3) 64 : Int)) 0 = true := by rw [hpc]; simp [ieq]
          simp only [step6, hc, hz, t2.2, hadd, t3.2, t4.2, hneg, t5.2, q1, q2, q3, cut_eq ha, re]
          exact .no _ _ (.yes _ _ (.need _ _ t2.1 (.need _ _ t3.1 (.yes _ _ (.need _ _ t4.1 (.need _ _ (cut_ok _ _) (.yes _ _ (.need _ _ t5.1 (.need _ _ (cut_ok _ _) (.yes _ _ (.need _ _ hwk.1 (by rw [hwk.2]; exact .ret))))))))))))
        | succ d ih =>
          intro i hi
          have hc : ilt (i : Int) 64 = true := by simp [ilt]; omega
          have hcv : iconv .u64 (i : Int) = (i : Int) := by unfold iconv; rw [wrap_u64]; omega
          have l1 := pc_le (turn a x1 x3) i
          have l2 := pc_le (cut a x3) i
          have hst : isub .i64 (iadd .i64 ((pc (turn a x1 x3) i : Int) - (pc (cut a x3) i : Int)) (iconv .i64 (iand .u64 (ishr .u64 ((turn a x1 x3 : Nat) : Int) (iconv .u64 (i : Int))) 1))) (iconv .i64 (iand .u64 (ishr .u64 ((cut a x3 : Nat) : Int) (iconv .u64 (i : Int))) 1)) =
              (pc (turn a x1 x3) (i + 1) : Int) - (pc (cut a x3) (i + 1) : Int) := by
            rw [bit_at _ i (by omega), bit_at _ i (by omega), pc, pc]
            unfold isub iadd
            rw [i64_small (x := _ + _) (by omega) (by omega), i64_small (by omega) (by omega)]
            omega
          have e2 : iadd .i64 (i : Int) 1 = ((i + 1 : Nat) : Int) := by unfold iadd; rw [i64_small (by omega) (by omega)]; omega
          simp only [step6, hc, cut_eq ha, hst, e2]
          exact .yes _ _ (.need _ _ (by rw [hcv]; omega) (.need _ _ (cut_ok _ _) (.need _ _ (by rw [hcv]; omega) (.jump _ (ih (i + 1) (by omega))))))
      have := go 64 0 (by omega)
      simpa [pc] using this
end Go.Eng.RA
end
section
/- The plain law of BitsSigned. -/
namespace Go.Eng.RA
open Go.Eng
set_option maxRecDepth 100000

theorem sval (a : Nat) (w : Int) (T : Nat) (hw : wd w ≤ 4) (hT : 2 ^ (8 * wd w - 1) = T) :
    iconv .i64 ((ext a w : Nat) : Int) = if cut a w < T then (cut a w : Int) else (cut a w : Int) - 2 * T := by
  subst hT
  unfold ext sg cut iconv
  rw [wrap_i64]
  rcases wd_cases w with h | h | h | h | h | h | h | h <;> rw [h] at hw ⊢ <;> simp only [Nat.reduceMul, Nat.reduceSub, Nat.reducePow, decide_eq_true_eq] <;> split <;> split <;> omega

theorem sg_bit (a : Nat) (w : Int) : sg a w = a.testBit (8 * wd w - 1) := by
  rw [Nat.testBit_eq_decide_div_mod_eq]; rfl

theorem sg_top (a : Nat) (w : Int) (T : Nat) (hT : 2 ^ (8 * wd w - 1) = T) (h : a < 2 ^ (8 * wd w)) : sg a w = decide (T ≤ a) := by
  have hw := wd_pos w
  have e : 2 ^ (8 * wd w) = 2 * T := by rw [← hT, ← Nat.pow_succ']; congr 1; omega
  rw [e] at h
  unfold sg
  rw [hT, decide_eq_decide]
  have hp : 0 < T := by rw [← hT]; exact Nat.pow_pos (by decide)
  by_cases hl : T ≤ a
  · have : a / T = 1 := by rw [Nat.div_eq_iff hp]; omega
    rw [this]; simp [hl]
  · rw [Nat.div_eq_of_lt (by omega)]; simp [hl]

theorem xor_dec (p q : Prop) [Decidable p] [Decidable q] : ((decide p ^^ decide q) = true) ↔ (p ∧ ¬q ∨ ¬p ∧ q) := by
  by_cases hp : p <;> by_cases hq : q <;> simp [hp, hq]

theorem mod2 (S T : Nat) (h : S < 4 * T) : S % (2 * T) = if S < 2 * T then S else S - 2 * T := by
  split
  · exact Nat.mod_eq_of_lt ‹_›
  · rw [Nat.mod_eq_sub_mod (by omega), Nat.mod_eq_of_lt (by omega)]

theorem over_add (A B k T : Nat) (hA : A < 2 * T) (hB : B < 2 * T) (hk : k ≤ 1) :
    ((decide (T ≤ A) ^^ decide (T ≤ (A + B + k) % (2 * T))) && (decide (T ≤ B) ^^ decide (T ≤ (A + B + k) % (2 * T)))) =
      (decide ((T : Int) ≤ (if A < T then (A : Int) else (A : Int) - 2 * T) + (if B < T then (B : Int) else (B : Int) - 2 * T) + k) ||
       decide ((if A < T then (A : Int) else (A : Int) - 2 * T) + (if B < T then (B : Int) else (B : Int) - 2 * T) + k < -(T : Int))) := by
  rw [mod2 _ _ (by omega), Bool.eq_iff_iff]
  simp only [Bool.and_eq_true, Bool.or_eq_true, xor_dec, decide_eq_true_eq]
  split <;> split <;> split <;> omega

theorem over_sub (A B k T : Nat) (hA : A < 2 * T) (hB : B < 2 * T) (hk : k ≤ 1) :
    ((decide (T ≤ A) ^^ decide (T ≤ B)) && (decide (T ≤ A) ^^ decide (T ≤ (A + 2 * T - B - k + 2 * T) % (2 * T)))) =
      (decide ((T : Int) ≤ (if A < T then (A : Int) else (A : Int) - 2 * T) - (if B < T then (B : Int) else (B : Int) - 2 * T) - k) ||
       decide ((if A < T then (A : Int) else (A : Int) - 2 * T) - (if B < T then (B : Int) else (B : Int) - 2 * T) - k < -(T : Int))) := by
  by_cases hd : A = 0 ∧ B = 2 * T - 1 ∧ k = 1
  · obtain ⟨rfl, rfl, rfl⟩ := hd
    have : (0 + 2 * T - (2 * T - 1) - 1 + 2 * T) % (2 * T) = 0 := by
      rw [show 0 + 2 * T - (2 * T - 1) - 1 + 2 * T = 2 * T by omega, Nat.mod_self]
    rw [this, Bool.eq_iff_iff]
    simp only [Bool.and_eq_true, Bool.or_eq_true, xor_dec, decide_eq_true_eq]
    split <;> split <;> omega
  · rw [Nat.add_mod_right, mod2 _ _ (by omega), Bool.eq_iff_iff]
    simp only [Bool.and_eq_true, Bool.or_eq_true, xor_dec, decide_eq_true_eq]
    split <;> split <;> split <;> omega

theorem rest_cut (a b : Nat) (c : Bool) (w : Int) (T : Nat) (hw : wd w ≤ 4) (hT : 2 ^ (8 * wd w - 1) = T) : cut (rest a b c w) w = (cut a w + 2 * T - cut b w - c.toNat + 2 * T) % (2 * T) := by
  subst hT
  have hA := cut_lt a w
  have hB := cut_lt b w
  have hc : c.toNat ≤ 1 := by cases c <;> decide
  unfold rest
  rw [mod_64_cut]
  generalize cut a w = A at *
  generalize cut b w = B at *
  generalize c.toNat = k at *
  unfold cut
  rcases wd_cases w with h | h | h | h | h | h | h | h <;> rw [h] at hw hA hB ⊢ <;> simp only [Nat.reduceMul, Nat.reduceSub, Nat.reducePow] at hA hB ⊢ <;> omega

structure SignedFacts (a b : Nat) (c : Bool) (w : Int) (T : Nat) (k : Int) : Prop where
  over : (addF a b c w).2.2 = (decide ((T : Int) ≤ (if cut a w < T then (cut a w : Int) else (cut a w : Int) - 2 * T) + (if cut b w < T then (cut b w : Int) else (cut b w : Int) - 2 * T) + k) ||
       decide ((if cut a w < T then (cut a w : Int) else (cut a w : Int) - 2 * T) + (if cut b w < T then (cut b w : Int) else (cut b w : Int) - 2 * T) + k < -(T : Int)))
  out : (addF a b c w).2.1 = decide (2 * (T : Int) ≤ (cut a w : Int) + (cut b w : Int) + k)
  runs : (subF a b c w).2.2 = (decide ((T : Int) ≤ (if cut a w < T then (cut a w : Int) else (cut a w : Int) - 2 * T) - (if cut b w < T then (cut b w : Int) else (cut b w : Int) - 2 * T) - k) ||
       decide ((if cut a w < T then (cut a w : Int) else (cut a w : Int) - 2 * T) - (if cut b w < T then (cut b w : Int) else (cut b w : Int) - 2 * T) - k < -(T : Int)))
  low : (subF a b c w).2.1 = decide ((cut a w : Int) - (cut b w : Int) - k < 0)

theorem signed_facts (a b : Nat) (c : Bool) (w : Int) (T : Nat) (hw : wd w ≤ 4) (hT : 2 ^ (8 * wd w - 1) = T) : SignedFacts a b c w T (c.toNat : Int) := by
  have hp := wd_pos w
  have e : 2 ^ (8 * wd w) = 2 * T := by rw [← hT, ← Nat.pow_succ']; congr 1; omega
  have hA : cut a w < 2 * T := by rw [← e]; exact cut_lt a w
  have hB : cut b w < 2 * T := by rw [← e]; exact cut_lt b w
  have hc : c.toNat ≤ 1 := by cases c <;> decide
  refine ⟨?_, ?_, ?_, ?_⟩
  · rw [← over_add _ _ _ _ hA hB hc]
    change sg ((cut a w ^^^ cut (sum a b c w) w) &&& (cut b w ^^^ cut (sum a b c w) w)) w = _
    rw [sg_bit, Nat.testBit_and, Nat.testBit_xor, Nat.testBit_xor, ← sg_bit, ← sg_bit, ← sg_bit, sg_top _ w T hT (cut_lt _ _), sg_top _ w T hT (cut_lt _ _), sg_top _ w T hT (cut_lt _ _)]
    have : cut (sum a b c w) w = (cut a w + cut b w + c.toNat) % (2 * T) := by rw [← e]; rfl
    rw [this]
  · change decide (2 ^ (8 * wd w) ≤ cut a w + cut b w + c.toNat) = _
    rw [e, decide_eq_decide]; omega
  · rw [← over_sub _ _ _ _ hA hB hc]
    change sg ((cut a w ^^^ cut b w) &&& (cut a w ^^^ cut (rest a b c w) w)) w = _
    rw [sg_bit, Nat.testBit_and, Nat.testBit_xor, Nat.testBit_xor, ← sg_bit, ← sg_bit, ← sg_bit, sg_top _ w T hT (cut_lt _ _), sg_top _ w T hT (cut_lt _ _), sg_top _ w T hT (cut_lt _ _), rest_cut a b c w T hw hT]
  · change decide (cut a w < cut b w + c.toNat) = _
    rw [decide_eq_decide]; omega

theorem bitsSigned (x0 x1 x2 : Int) (x3 : Bool) (w0 : (Lit.int .u64 x0).wf = true) (w1 : (Lit.int .u64 x1).wf = true) :
    pre3 (x0, (x1, (x2, x3))) ∧ fn3 (x0, (x1, (x2, x3))) = true := by
  obtain ⟨a, rfl, ha⟩ := u64_nat w0
  obtain ⟨b, rfl, hb⟩ := u64_nat w1
  have hwk := wakes
  unfold pre3 fn3 tree3 Tr.ok
  simp only [Tr.wp, Tr.val]
  by_cases g1 : x2 < 1
  · have : ilt x2 1 = true := by simp [ilt, g1]
    simp only [this, show ((true : Bool) == false) = false from rfl, cond_false]
    exact ⟨⟨hwk.1, trivial⟩, hwk.2⟩
  · have g1' : ilt x2 1 = false := by simp [ilt]; omega
    simp only [g1', show ((false : Bool) == false) = true from rfl, cond_true]
    by_cases g2 : 4 < x2
    · have : ilt 4 x2 = true := by simp [ilt, g2]
      simp only [this, cond_true]
      exact ⟨⟨hwk.1, trivial⟩, hwk.2⟩
    · have g2' : ilt 4 x2 = false := by simp [ilt]; omega
      simp only [g2', cond_false]
      have hwd : (wd x2 : Int) = x2 := by unfold wd; split <;> (try split) <;> omega
      have hw4 : wd x2 ≤ 4 := by omega
      obtain ⟨T, hT, h6, h8, hT31⟩ : ∃ T : Nat, 2 ^ (8 * wd x2 - 1) = T ∧ isub .i64 (imul .i64 8 x2) 1 = ((8 * wd x2 - 1 : Nat) : Int) ∧ ishl .i64 1 ((8 * wd x2 - 1 : Nat) : Int) = (T : Int) ∧ T ≤ 2147483648 := by
        have hc : x2 = 1 ∨ x2 = 2 ∨ x2 = 3 ∨ x2 = 4 := by omega
        rcases hc with rfl | rfl | rfl | rfl
        · exact ⟨128, by decide, by decide, by decide, by decide⟩
        · exact ⟨32768, by decide, by decide, by decide, by decide⟩
        · exact ⟨8388608, by decide, by decide, by decide, by decide⟩
        · exact ⟨2147483648, by decide, by decide, by decide, by decide⟩
      have hp := wd_pos x2
      have e : 2 ^ (8 * wd x2) = 2 * T := by rw [← hT, ← Nat.pow_succ']; congr 1; omega
      have hA : cut a x2 < 2 * T := by rw [← e]; exact cut_lt a x2
      have hB : cut b x2 < 2 * T := by rw [← e]; exact cut_lt b x2
      have h15 := add_eq ha hb x3 x2
      have h16 := sub_eq ha hb x3 x2
      have hf := signed_facts a b x3 x2 T hw4 hT
      have hsa := sval a x2 T hw4 hT
      have hsb := sval b x2 T hw4 hT
      have hua : iconv .i64 ((cut a x2 : Nat) : Int) = (cut a x2 : Int) := by unfold iconv; exact i64_small (by omega) (by omega)
      have hub : iconv .i64 ((cut b x2 : Nat) : Int) = (cut b x2 : Int) := by unfold iconv; exact i64_small (by omega) (by omega)
      have hneg : ineg .i64 (T : Int) = -(T : Int) := by unfold ineg; rw [i64_small (by omega) (by omega)]; omega
      have h2T : imul .i64 2 (T : Int) = 2 * (T : Int) := by unfold imul; exact i64_small (by omega) (by omega)
      have rA : -(2147483648 : Int) ≤ (if cut a x2 < T then (cut a x2 : Int) else (cut a x2 : Int) - 2 * T) ∧ (if cut a x2 < T then (cut a x2 : Int) else (cut a x2 : Int) - 2 * T) ≤ 2147483648 := by split <;> omega
      have rB : -(2147483648 : Int) ≤ (if cut b x2 < T then (cut b x2 : Int) else (cut b x2 : Int) - 2 * T) ∧ (if cut b x2 < T then (cut b x2 : Int) else (cut b x2 : Int) - 2 * T) ≤ 2147483648 := by split <;> omega
      have six : ∀ z : Int, -100000000000 ≤ z → z ≤ 100000000000 → IntKind.wrap .i64 z = z := fun z p q => i64_small (by omega) (by omega)
      obtain ⟨f1, f2, f3, f4⟩ := hf
      rw [← h15.2] at f1 f2
      rw [← h16.2] at f3 f4
      generalize (if cut a x2 < T then (cut a x2 : Int) else (cut a x2 : Int) - 2 * T) = sa at hsa rA f1 f3
      generalize (if cut b x2 < T then (cut b x2 : Int) else (cut b x2 : Int) - 2 * T) = sb at hsb rB f1 f3
      simp only [h6, h8, ext_eq, hsa, hsb, cut_eq ha, cut_eq hb, hua, hub, hneg, h2T]
      simp only [ilt, ile, iadd, isub]
      cases x3 with
      | true =>
        simp only [cond_true, f1, f2, f3, f4, Bool.toNat_true]
        simp only [six (sa + sb) (by omega) (by omega), six (sa + sb + 1) (by omega) (by omega), six (sa - sb) (by omega) (by omega), six (sa - sb - 1) (by omega) (by omega), six ((cut a x2 : Int) + (cut b x2 : Int)) (by omega) (by omega), six ((cut a x2 : Int) + (cut b x2 : Int) + 1) (by omega) (by omega),
          six ((cut a x2 : Int) - (cut b x2 : Int)) (by omega) (by omega), six ((cut a x2 : Int) - (cut b x2 : Int) - 1) (by omega) (by omega)]
        have n6 : (0 : Int) ≤ ((8 * wd x2 - 1 : Nat) : Int) := by omega
        have k1 : (((1 : Nat) : Int)) = 1 := rfl
        simp only [k1]
        generalize decide ((T : Int) ≤ sa + sb + 1) = p
        generalize decide (sa + sb + 1 < -(T : Int)) = q
        generalize decide ((T : Int) ≤ sa - sb - 1) = p'
        generalize decide (sa - sb - 1 < -(T : Int)) = q'
        generalize decide (2 * (T : Int) ≤ (cut a x2 : Int) + (cut b x2 : Int) + 1) = r
        generalize decide ((cut a x2 : Int) - (cut b x2 : Int) - 1 < 0) = r'
        cases p <;> cases q <;> cases p' <;> cases q' <;> cases r <;> cases r' <;>
          exact ⟨⟨ext_ok _ _, ext_ok _ _, cut_ok _ _, cut_ok _ _, n6, h15.1, h16.1, hwk.1, trivial⟩, hwk.2⟩
      | false =>
        simp only [cond_false, f1, f2, f3, f4, Bool.toNat_false]
        simp only [six (sa + sb) (by omega) (by omega), six (sa + sb + 0) (by omega) (by omega), six (sa - sb) (by omega) (by omega), six (sa - sb - 0) (by omega) (by omega), six ((cut a x2 : Int) + (cut b x2 : Int)) (by omega) (by omega), six ((cut a x2 : Int) + (cut b x2 : Int) + 0) (by omega) (by omega),
          six ((cut a x2 : Int) - (cut b x2 : Int)) (by omega) (by omega), six ((cut a x2 : Int) - (cut b x2 : Int) - 0) (by omega) (by omega)]
        have n6 : (0 : Int) ≤ ((8 * wd x2 - 1 : Nat) : Int) := by omega
        have k0 : (((0 : Nat) : Int)) = 0 := rfl
        simp only [k0]
        generalize decide ((T : Int) ≤ sa + sb + 0) = p
        generalize decide (sa + sb + 0 < -(T : Int)) = q
        generalize decide ((T : Int) ≤ sa - sb - 0) = p'
        generalize decide (sa - sb - 0 < -(T : Int)) = q'
        generalize decide (2 * (T : Int) ≤ (cut a x2 : Int) + (cut b x2 : Int) + 0) = r
        generalize decide ((cut a x2 : Int) - (cut b x2 : Int) - 0 < 0) = r'
        cases p <;> cases q <;> cases p' <;> cases q' <;> cases r <;> cases r' <;>
          exact ⟨⟨ext_ok _ _, ext_ok _ _, cut_ok _ _, cut_ok _ _, n6, h15.1, h16.1, hwk.1, trivial⟩, hwk.2⟩
end Go.Eng.RA
end
