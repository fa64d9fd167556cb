/- A part of the proof that the laws of this seat hold. Conditions: none beyond the row. -/
import Derived.Test.YtjcnpofhdfpohaaDoorFns0
section
/- Plain laws: a number out of its bytes. -/
namespace Go.Eng.RA
open Go.Eng
set_option maxRecDepth 100000

theorem or_step (a i : Nat) : (a % 2 ^ (8 * i)) ||| ((a / 2 ^ (8 * i) % 256) * 2 ^ (8 * i)) = a % 2 ^ (8 * (i + 1)) := by
  have h : a % 2 ^ (8 * i) < 2 ^ (8 * i) := Nat.mod_lt _ (Nat.pow_pos (by decide))
  rw [Nat.or_comm, Nat.mul_comm, ← Nat.two_pow_add_eq_or_of_lt h]
  have e : 2 ^ (8 * (i + 1)) = 2 ^ (8 * i) * 256 := by rw [Nat.mul_add, Nat.pow_add]
  rw [e, Nat.mod_mul]
  omega

theorem acc_step {a i : Nat} (hi : i < 8) :
    ior .u64 ((a % 2 ^ (8 * i) : Nat) : Int) (ishl .u64 (iconv .u64 (byteAt a i)) (imul .i64 8 (i : Int))) = ((a % 2 ^ (8 * (i + 1)) : Nat) : Int) := by
  have e : imul .i64 8 (i : Int) = ((8 * i : Nat) : Int) := by
    unfold imul; rw [i64_small (by omega) (by omega)]; omega
  have hb : a / 2 ^ (8 * i) % 256 < 256 := Nat.mod_lt _ (by decide)
  have ec : iconv .u64 (byteAt a i) = ((a / 2 ^ (8 * i) % 256 : Nat) : Int) := by
    unfold iconv byteAt; rw [wrap_u64]; omega
  have h64 : 2 ^ (8 * (i + 1)) ≤ 2 ^ 64 := Nat.pow_le_pow_right (by decide) (by omega)
  have e8 : 2 ^ (8 * (i + 1)) = 2 ^ (8 * i) * 256 := by rw [Nat.mul_add, Nat.pow_add]
  have hp : 0 < 2 ^ (8 * i) := Nat.pow_pos (by decide)
  have hmul : (a / 2 ^ (8 * i) % 256) * 2 ^ (8 * i) < 18446744073709551616 := by
    have : (a / 2 ^ (8 * i) % 256) * 2 ^ (8 * i) < 256 * 2 ^ (8 * i) := Nat.mul_lt_mul_of_pos_right hb hp
    omega
  have ha : a % 2 ^ (8 * i) < 18446744073709551616 := by
    have := Nat.mod_lt a hp
    omega
  rw [e, ec, ishl_u64 (by omega), Nat.mod_eq_of_lt hmul, ior_u64 ha hmul, or_step]

theorem number_from (a w : Nat) (hw : w ≤ 8) : ∀ (d i : Nat), w = i + d →
    Ends (step19 (bytesOf a w)) ((a % 2 ^ (8 * w) : Nat) : Int) (step19 (bytesOf a w) (.h0 ((a % 2 ^ (8 * i) : Nat) : Int) (bytesOf a w) (w : Nat) (i : Nat)))
  | 0, i, h => by
    have hc : ilt (i : Int) (w : Int) = false := by simp [ilt]; omega
    simp only [step19, hc]
    refine .no _ _ ?_
    rw [show w = i by omega]
    exact .ret
  | d + 1, i, h => by
    have hc : ilt (i : Int) (w : Int) = true := by simp [ilt]; omega
    have hm : (0 : Int) ≤ imul .i64 8 (i : Int) := by unfold imul; rw [i64_small (by omega) (by omega)]; omega
    have hr : rdc (.int .u8) (bytesOf a w) ((i : Int)).toNat = byteAt a i := by
      unfold rdc
      rw [Int.toNat_natCast]
      simp [bytesOf, List.getD, show i < w by omega]
    have e2 : iadd .i64 (i : Int) 1 = ((i + 1 : Nat) : Int) := by unfold iadd; rw [i64_small (by omega) (by omega)]; omega
    simp only [step19, hc]
    refine .yes _ _ (.need _ _ (by omega) (.need _ _ (by rw [bytesOf_len]; omega) (.need _ _ hm (.jump _ ?_))))
    rw [hr, acc_step (by omega), e2]
    exact number_from a w hw d (i + 1) (by omega)

theorem number_ends (a w : Nat) (hw : w ≤ 8) : Ends (step19 (bytesOf a w)) ((a % 2 ^ (8 * w) : Nat) : Int) (tree19 (bytesOf a w)) := by
  have e : imin (w : Int) 8 = (w : Int) := by
    unfold imin; split <;> omega
  have e2 : (List.drop 0 (bytesOf a w)).take (w - 0) = bytesOf a w := by
    rw [List.drop_zero, List.take_of_length_le (by rw [bytesOf_len]; omega)]
  unfold tree19
  simp only [bytesOf_len, e, Int.toNat_natCast, e2]
  refine .need _ _ (by omega) (.need _ _ (by omega) (.need _ _ (by omega) (.jump _ ?_)))
  have := number_from a w hw w 0 (by omega)
  rw [show a % 2 ^ (8 * 0) = 0 by simp [Nat.mod_one]] at this
  exact this

theorem number_ok (a w : Nat) (hw : w ≤ 8) : pre19 (bytesOf a w) := ⟨_, number_ends a w hw⟩
theorem number_eq (a w : Nat) (hw : w ≤ 8) : fn19 (bytesOf a w) = ((a % 2 ^ (8 * w) : Nat) : Int) := endVal_eq (number_ends a w hw)
end Go.Eng.RA
end
section
/- Plain laws: a word's sign. -/
namespace Go.Eng.RA
open Go.Eng
set_option maxRecDepth 100000

def sg (a : Nat) (n : Int) : Bool := decide (a / 2 ^ (8 * wd n - 1) % 2 = 1)

theorem bits_less (n : Int) : isub .i64 (imul .i64 8 (fn46 n)) 1 = ((8 * wd n - 1 : Nat) : Int) := by
  have h := wd_pos n
  rw [wide_eq]
  have e : imul .i64 8 ((wd n : Nat) : Int) = ((8 * wd n : Nat) : Int) := by unfold imul; rw [i64_small (by omega) (by omega)]; omega
  rw [e]; unfold isub; rw [i64_small (by omega) (by omega)]; omega

theorem sign_ok (x n : Int) : pre49 (x, n) := by
  refine ⟨wide_ok n, ?_, trivial⟩
  change (0 : Int) ≤ isub .i64 (imul .i64 8 (fn46 n)) 1
  rw [bits_less]; omega

theorem sign_eq (a : Nat) (n : Int) : fn49 ((a : Int), n) = sg a n := by
  have h := wd_pos n
  change ieq (iand .u64 (ishr .u64 (a : Int) (isub .i64 (imul .i64 8 (fn46 n)) 1)) 1) 1 = _
  rw [bits_less, ishr_u64 (by omega)]
  unfold sg
  generalize a / 2 ^ (8 * wd n - 1) = b
  have e : iand .u64 (b : Int) 1 = ((b % 2 : Nat) : Int) := by
    have e1 : iand .u64 (b : Int) 1 = IntKind.wrap .u64 ((BitVec.ofInt 64 (b : Int) &&& BitVec.ofInt 64 ((1 : Nat) : Int)).toNat : Nat) := rfl
    rw [e1, BitVec.toNat_and, ofInt_nat (b := 64) (a := 1) (by decide), BitVec.ofInt_natCast, BitVec.toNat_ofNat, Nat.and_one_is_mod, wrap_u64]
    have : b % 2 ^ 64 % 2 = b % 2 := Nat.mod_mod_of_dvd _ (by decide)
    rw [this]; omega
  rw [e]
  unfold ieq
  by_cases hb : b % 2 = 1
  · simp [hb]
  · have : b % 2 = 0 := by omega
    simp [this]
end Go.Eng.RA
end
section
/- Plain laws: sums. -/
namespace Go.Eng.RA
open Go.Eng
set_option maxRecDepth 100000

theorem pw_le (n : Int) : 2 ^ (8 * wd n) ≤ 18446744073709551616 := by
  rcases wd_cases n with h | h | h | h | h | h | h | h <;> rw [h] <;> decide

theorem cut_lt (a : Nat) (n : Int) : cut a n < 2 ^ (8 * wd n) := Nat.mod_lt _ (Nat.pow_pos (by decide))

theorem cut_64 (a : Nat) (n : Int) : cut a n < 18446744073709551616 := Nat.lt_of_lt_of_le (cut_lt a n) (pw_le n)

def sum (a b : Nat) (c : Bool) (n : Int) : Nat := cut a n + cut b n + c.toNat

def addF (a b : Nat) (c : Bool) (n : Int) : Int × (Bool × Bool) :=
  let r := cut (sum a b c n) n
  ((r : Int), (decide (2 ^ (8 * wd n) ≤ sum a b c n), sg ((cut a n ^^^ r) &&& (cut b n ^^^ r)) n))

theorem mod_64_cut (s : Nat) (n : Int) : cut (s % 18446744073709551616) n = cut s n := by
  unfold cut
  refine Nat.mod_mod_of_dvd _ ?_
  rcases wd_cases n with h | h | h | h | h | h | h | h <;> rw [h] <;> decide

theorem carry_eq (s : Nat) (n : Int) (hs : s < 2 * 2 ^ (8 * wd n)) :
    fn48 (((s / 18446744073709551616 : Nat) : Int), (((s % 18446744073709551616 : Nat) : Int), ((cut s n : Nat) : Int))) = decide (2 ^ (8 * wd n) ≤ s) := by
  have hp := pw_le n
  change cond ((ieq ((s / 18446744073709551616 : Nat) : Int) 1) == false) (ine ((s % 18446744073709551616 : Nat) : Int) ((cut s n : Nat) : Int)) true = _
  unfold ieq ine cut
  have hq : 0 < 2 ^ (8 * wd n) := Nat.pow_pos (by decide)
  generalize 2 ^ (8 * wd n) = q at *
  by_cases h1 : q ≤ s
  · have hm : s % q = s - q := by rw [Nat.mod_eq_sub_mod h1, Nat.mod_eq_of_lt (by omega)]
    rw [hm]
    by_cases h2 : s < 18446744073709551616
    · have e1 : s / 18446744073709551616 = 0 := Nat.div_eq_of_lt h2
      have e2 : s % 18446744073709551616 = s := Nat.mod_eq_of_lt h2
      rw [e1, e2]
      have : ((s : Int) != ((s - q : Nat) : Int)) = true := by simp; omega
      simp [this, h1]
    · have e1 : s / 18446744073709551616 = 1 := by omega
      rw [e1]; simp [h1]
  · have hm : s % q = s := Nat.mod_eq_of_lt (by omega)
    have e1 : s / 18446744073709551616 = 0 := Nat.div_eq_of_lt (by omega)
    have e2 : s % 18446744073709551616 = s := Nat.mod_eq_of_lt (by omega)
    rw [hm, e1, e2]
    simp [h1]

theorem add1_ok (x : Int × (Int × Int)) : pre48 x := by
  change cond ((ieq x.1 1) == false) True True
  generalize ((ieq x.1 1) == false) = q
  cases q <;> trivial

theorem add_eq {a b : Nat} (ha : a < 18446744073709551616) (hb : b < 18446744073709551616) (c : Bool) (n : Int) : pre15 ((a : Int), ((b : Int), (c, n))) ∧ fn15 ((a : Int), ((b : Int), (c, n))) = addF a b c n := by
  have hca := cut_lt a n
  have hcb := cut_lt b n
  have hp := pw_le n
  have key : ∀ (k : Nat), k ≤ 1 → ∀ s, s = cut a n + cut b n + k →
      fnAdd64 (fn14 ((a : Int), n), (fn14 ((b : Int), n), (k : Int))) = (((s % 18446744073709551616 : Nat) : Int), ((s / 18446744073709551616 : Nat) : Int)) := by
    intro k hk s hs
    rw [cut_eq ha, cut_eq hb]
    unfold fnAdd64
    rw [hs]
    simp only [Prod.mk.injEq]
    constructor <;> omega
  have pre : ∀ (k : Nat), k ≤ 1 → preAdd64 (fn14 ((a : Int), n), (fn14 ((b : Int), n), (k : Int))) := by
    intro k hk
    rw [cut_eq ha, cut_eq hb]
    refine ⟨?_, ?_, ?_, ?_⟩ <;> simp only <;> omega
  have r64 : ∀ s, fn14 (((s % 18446744073709551616 : Nat) : Int), n) = (cut s n : Int) := fun s => by
    rw [cut_eq (Nat.mod_lt _ (by decide)), mod_64_cut]
  have xs : ∀ s, iand .u64 (ixor .u64 (fn14 ((a : Int), n)) (cut s n : Int)) (ixor .u64 (fn14 ((b : Int), n)) (cut s n : Int)) = (((cut a n ^^^ cut s n) &&& (cut b n ^^^ cut s n) : Nat) : Int) := fun s => by
    rw [cut_eq ha, cut_eq hb, ixor_u64 (cut_64 a n) (cut_64 s n), ixor_u64 (cut_64 b n) (cut_64 s n)]
    exact iand_u64 (Nat.xor_lt_two_pow (n := 64) (cut_64 a n) (cut_64 s n)) (Nat.xor_lt_two_pow (n := 64) (cut_64 b n) (cut_64 s n))
  cases c with
  | true =>
    have hk : fnAdd64 (fn14 ((a : Int), n), (fn14 ((b : Int), n), (1 : Int))) = _ := key 1 (by decide) _ rfl
    have hpre := pre 1 (by decide)
    have hc := carry_eq (cut a n + cut b n + 1) n (by omega)
    constructor
    · refine ⟨cut_ok _ _, cut_ok _ _, hpre, cut_ok _ _, ?_, sign_ok _ _, trivial⟩
      exact add1_ok _
    · change (fn14 ((fnAdd64 (fn14 ((a : Int), n), (fn14 ((b : Int), n), (1 : Int)))).1, n), (fn48 ((fnAdd64 (fn14 ((a : Int), n), (fn14 ((b : Int), n), (1 : Int)))).2, _, _), fn49 (_, n))) = _
      rw [hk]
      simp only [r64]
      rw [hc, xs, sign_eq]
      rfl
  | false =>
    have hk : fnAdd64 (fn14 ((a : Int), n), (fn14 ((b : Int), n), (0 : Int))) = _ := key 0 (by decide) _ rfl
    have hpre := pre 0 (by decide)
    have hc := carry_eq (cut a n + cut b n + 0) n (by omega)
    constructor
    · refine ⟨cut_ok _ _, cut_ok _ _, hpre, cut_ok _ _, ?_, sign_ok _ _, trivial⟩
      exact add1_ok _
    · change (fn14 ((fnAdd64 (fn14 ((a : Int), n), (fn14 ((b : Int), n), (0 : Int)))).1, n), (fn48 ((fnAdd64 (fn14 ((a : Int), n), (fn14 ((b : Int), n), (0 : Int)))).2, _, _), fn49 (_, n))) = _
      rw [hk]
      simp only [r64]
      rw [hc, xs, sign_eq]
      rfl
end Go.Eng.RA
end
section
/- Plain laws: rests. -/
namespace Go.Eng.RA
open Go.Eng
set_option maxRecDepth 100000

/-- The rest, on the 64 bits. -/
def rest (a b : Nat) (c : Bool) (n : Int) : Nat := (cut a n + 18446744073709551616 - cut b n - c.toNat) % 18446744073709551616

def subF (a b : Nat) (c : Bool) (n : Int) : Int × (Bool × Bool) :=
  let r := cut (rest a b c n) n
  ((r : Int), (decide (cut a n < cut b n + c.toNat), sg ((cut a n ^^^ cut b n) &&& (cut a n ^^^ r)) n))

theorem rest_64 (a b : Nat) (c : Bool) (n : Int) : rest a b c n < 18446744073709551616 := Nat.mod_lt _ (by decide)

theorem sub_eq {a b : Nat} (ha : a < 18446744073709551616) (hb : b < 18446744073709551616) (c : Bool) (n : Int) : pre16 ((a : Int), ((b : Int), (c, n))) ∧ fn16 ((a : Int), ((b : Int), (c, n))) = subF a b c n := by
  have hca := cut_64 a n
  have hcb := cut_64 b n
  have key : ∀ (k : Nat), k ≤ 1 → 
      fnSub64 (fn14 ((a : Int), n), (fn14 ((b : Int), n), (k : Int))) = ((((cut a n + 18446744073709551616 - cut b n - k) % 18446744073709551616 : Nat) : Int), if cut a n < cut b n + k then 1 else 0) := by
    intro k hk
    rw [cut_eq ha, cut_eq hb]
    unfold fnSub64
    simp only [Prod.mk.injEq]
    constructor
    · omega
    · by_cases h : cut a n < cut b n + k
      · rw [if_pos h, if_pos (by omega)]
      · rw [if_neg h, if_neg (by omega)]
  have pre : ∀ (k : Nat), k ≤ 1 → preSub64 (fn14 ((a : Int), n), (fn14 ((b : Int), n), (k : Int))) := by
    intro k hk
    rw [cut_eq ha, cut_eq hb]
    refine ⟨?_, ?_, ?_, ?_, ?_⟩ <;> simp only <;> omega
  have xs : ∀ s, iand .u64 (ixor .u64 (fn14 ((a : Int), n)) (fn14 ((b : Int), n))) (ixor .u64 (fn14 ((a : Int), n)) (cut s n : Int)) = (((cut a n ^^^ cut b n) &&& (cut a n ^^^ cut s n) : Nat) : Int) := fun s => by
    rw [cut_eq ha, cut_eq hb, ixor_u64 (cut_64 a n) (cut_64 b n), ixor_u64 (cut_64 a n) (cut_64 s n)]
    exact iand_u64 (Nat.xor_lt_two_pow (n := 64) (cut_64 a n) (cut_64 b n)) (Nat.xor_lt_two_pow (n := 64) (cut_64 a n) (cut_64 s n))
  have bo : ∀ p : Prop, [Decidable p] → ieq (if p then (1 : Int) else 0) 1 = decide p := fun p _ => by
    by_cases h : p <;> simp [h, ieq]
  cases c with
  | true =>
    have hk : fnSub64 (fn14 ((a : Int), n), (fn14 ((b : Int), n), (1 : Int))) = _ := key 1 (by decide)
    have hpre := pre 1 (by decide)
    constructor
    · exact ⟨cut_ok _ _, cut_ok _ _, hpre, cut_ok _ _, sign_ok _ _, trivial⟩
    · change (fn14 ((fnSub64 (fn14 ((a : Int), n), (fn14 ((b : Int), n), (1 : Int)))).1, n), (ieq (fnSub64 (fn14 ((a : Int), n), (fn14 ((b : Int), n), (1 : Int)))).2 1, fn49 (iand .u64 (ixor .u64 (fn14 ((a : Int), n)) (fn14 ((b : Int), n))) (ixor .u64 (fn14 ((a : Int), n)) (fn14 ((fnSub64 (fn14 ((a : Int), n), (fn14 ((b : Int), n), (1 : Int)))).1, n))), n))) = _
      rw [hk]
      simp only
      rw [cut_eq (Nat.mod_lt _ (by decide)), xs, sign_eq, bo]
      rfl
  | false =>
    have hk : fnSub64 (fn14 ((a : Int), n), (fn14 ((b : Int), n), (0 : Int))) = _ := key 0 (by decide)
    have hpre := pre 0 (by decide)
    constructor
    · exact ⟨cut_ok _ _, cut_ok _ _, hpre, cut_ok _ _, sign_ok _ _, trivial⟩
    · change (fn14 ((fnSub64 (fn14 ((a : Int), n), (fn14 ((b : Int), n), (0 : Int)))).1, n), (ieq (fnSub64 (fn14 ((a : Int), n), (fn14 ((b : Int), n), (0 : Int)))).2 1, fn49 (iand .u64 (ixor .u64 (fn14 ((a : Int), n)) (fn14 ((b : Int), n))) (ixor .u64 (fn14 ((a : Int), n)) (fn14 ((fnSub64 (fn14 ((a : Int), n), (fn14 ((b : Int), n), (0 : Int)))).1, n))), n))) = _
      rw [hk]
      simp only
      rw [cut_eq (Nat.mod_lt _ (by decide)), xs, sign_eq, bo]
      rfl
end Go.Eng.RA
end
section
/- Plain laws: words extended. -/
namespace Go.Eng.RA
open Go.Eng
set_option maxRecDepth 100000

def ext (a : Nat) (n : Int) : Nat := if sg a n = true then cut a n + (18446744073709551616 - 2 ^ (8 * wd n)) else cut a n

theorem bits_free (n : Int) : isub .i64 64 (imul .i64 8 (fn46 n)) = ((64 - 8 * wd n : Nat) : Int) := by
  have h := wd_pos n
  rw [wide_eq]
  have e : imul .i64 8 ((wd n : Nat) : Int) = ((8 * wd n : Nat) : Int) := by unfold imul; rw [i64_small (by omega) (by omega)]; omega
  rw [e]; unfold isub; rw [i64_small (by omega) (by omega)]; omega

theorem ext_ok (x n : Int) : pre13 (x, n) := by
  have h : (0 : Int) ≤ isub .i64 64 (imul .i64 8 (fn46 n)) := by rw [bits_free]; omega
  exact ⟨wide_ok n, h, h, trivial⟩

theorem ishr_i64 {x : Int} {k : Nat} (hk : k < 64) : ishr .i64 x k = x / 2 ^ k := by
  have e : min k 64 = k := by omega
  simp only [ishr, IntKind.bits, Int.toNat_natCast, e]
  exact Int.fdiv_eq_ediv_of_nonneg _ (Int.le_of_lt (Int.pow_pos (by decide)))

theorem ext_eq (a : Nat) (n : Int) : fn13 ((a : Int), n) = (ext a n : Int) := by
  have hw := wd_pos n
  change iconv .u64 (ishr .i64 (iconv .i64 (ishl .u64 (a : Int) (isub .i64 64 (imul .i64 8 (fn46 n))))) (isub .i64 64 (imul .i64 8 (fn46 n)))) = _
  rw [bits_free, ishl_u64 (by omega), ishr_i64 (by omega)]
  unfold iconv ext sg cut
  rw [wrap_i64, wrap_u64]
  rcases wd_cases n with h | h | h | h | h | h | h | h <;> rw [h] <;> simp only [Nat.reduceMul, Nat.reduceSub, Nat.reducePow, Int.reducePow, Nat.mul_one, Nat.sub_self, Nat.pow_zero, Int.pow_zero, decide_eq_true_eq] <;> split <;> omega
end Go.Eng.RA
end
section
/- Plain laws: the sample that the laws of chapter 01 look at. -/
namespace Go.Eng.RA
open Go.Eng
set_option maxRecDepth 100000

theorem wk13 : fn13 (128, 1) = 18446744073709551488 := (ext_eq 128 1).trans (by decide +kernel)
theorem wk15 : pre15 (127, (1, (false, 1))) ∧ fn15 (127, (1, (false, 1))) = (128, (false, true)) := by
  have h := add_eq (a := 127) (b := 1) (by decide) (by decide) false 1
  exact ⟨h.1, h.2.trans (by decide +kernel)⟩
theorem wk16 : pre16 (128, (1, (false, 1))) ∧ fn16 (128, (1, (false, 1))) = (127, (false, true)) := by
  have h := sub_eq (a := 128) (b := 1) (by decide) (by decide) false 1
  exact ⟨h.1, h.2.trans (by decide +kernel)⟩
theorem wk45 : fn45 4 = 4294967295 := (mask_eq 4).trans (by decide +kernel)
theorem wk17a : fn17 0 = true := (par_eq 0).trans (by decide +kernel)
theorem wk17b : fn17 1 = false := (par_eq 1).trans (by decide +kernel)
theorem wk18 : fn18 (4660, 2) = bytesOf 4660 2 := (bytes_eq 4660 2)
theorem wk19 : fn19 (fn18 (4660, 2)) = 4660 := by
  rw [wk18]; exact (number_eq 4660 2 (by decide)).trans (by decide +kernel)
theorem wk19ok : pre19 (fn18 (4660, 2)) := by rw [wk18]; exact number_ok 4660 2 (by decide)

theorem wakes : pre12 () ∧ fn12 () = true := by
  unfold pre12 fn12 tree12 Tr.ok
  simp only [wk13, wk15.2, wk16.2, wk45, wk17a, wk17b, wk19, Tr.wp, Tr.val, ieq]
  exact ⟨⟨wk15.1, wk16.1, ext_ok _ _, mask_ok _, par_ok 0, par_ok 1, bytes_ok 4660 2, wk19ok, trivial⟩, rfl⟩
end Go.Eng.RA
end
section
/- Plain laws: words turned. -/
namespace Go.Eng.RA
open Go.Eng
set_option maxRecDepth 100000

/-- A word of W bits turned by k. -/
def rot (W x k : Nat) : Nat := 2 ^ k * (x % 2 ^ (W - k)) + x / 2 ^ (W - k)

theorem rot_hi {W x k : Nat} (hx : x < 2 ^ W) (hk : k ≤ W) : x / 2 ^ (W - k) < 2 ^ k := by
  rw [Nat.div_lt_iff_lt_mul (Nat.pow_pos (by decide)), ← Nat.pow_add]
  rw [show k + (W - k) = W by omega]; exact hx

theorem rot_bit {W x k : Nat} (hx : x < 2 ^ W) (hk : k ≤ W) (i : Nat) : (rot W x k).testBit i = if i < k then x.testBit (W - k + i) else (decide (i - k < W - k) && x.testBit (i - k)) := by
  unfold rot
  rw [Nat.testBit_two_pow_mul_add _ (rot_hi hx hk), Nat.testBit_div_two_pow, Nat.testBit_mod_two_pow]
  rw [Nat.add_comm i]

theorem bit_above {W x i : Nat} (hx : x < 2 ^ W) (hi : W ≤ i) : x.testBit i = false :=
  Nat.testBit_lt_two_pow (Nat.lt_of_lt_of_le hx (Nat.pow_le_pow_right (by decide) hi))

theorem rot_lt {W x k : Nat} (hx : x < 2 ^ W) (hk : k ≤ W) : rot W x k < 2 ^ W := by
  unfold rot
  have h1 := rot_hi hx hk
  have h2 : x % 2 ^ (W - k) < 2 ^ (W - k) := Nat.mod_lt _ (Nat.pow_pos (by decide))
  have h3 : 2 ^ W = 2 ^ k * 2 ^ (W - k) := by rw [← Nat.pow_add]; congr 1; omega
  rw [h3]
  calc 2 ^ k * (x % 2 ^ (W - k)) + x / 2 ^ (W - k) < 2 ^ k * (x % 2 ^ (W - k)) + 2 ^ k := by omega
    _ = 2 ^ k * (x % 2 ^ (W - k) + 1) := by rw [Nat.mul_add, Nat.mul_one]
    _ ≤ 2 ^ k * 2 ^ (W - k) := Nat.mul_le_mul_left _ h2

theorem rot_rot {W x j k : Nat} (hx : x < 2 ^ W) (hj : j < W) (hk : k < W) : rot W (rot W x j) k = rot W x ((j + k) % W) := by
  have hm : (j + k) % W = if j + k < W then j + k else j + k - W := by
    split
    · exact Nat.mod_eq_of_lt ‹_›
    · rw [Nat.mod_eq_sub_mod (by omega), Nat.mod_eq_of_lt (by omega)]
  have hb : ∀ i, W ≤ i → x.testBit i = false := fun i hi => bit_above hx hi
  apply Nat.eq_of_testBit_eq
  intro i
  rw [rot_bit (rot_lt hx (by omega)) (by omega), rot_bit hx (by omega), rot_bit hx (by omega), rot_bit hx (by rw [hm]; split <;> omega), hm]
  generalize hf : x.testBit = f at hb ⊢
  clear hf hm hx
  by_cases h1 : j + k < W
  · rw [if_pos h1]
    by_cases h2 : i < k
    · rw [if_pos h2, if_pos (show i < j + k by omega)]
      by_cases h3 : W - k + i < j
      · omega
      · rw [if_neg h3]
        by_cases h4 : i < j + k
        · rw [decide_eq_true (show W - k + i - j < W - j by omega), Bool.true_and]; congr 1; omega
        · omega
    · rw [if_neg h2]
      by_cases h3 : i - k < j
      · rw [if_pos h3, if_pos (show i < j + k by omega), decide_eq_true (show i - k < W - k by omega), Bool.true_and]; congr 1; omega
      · rw [if_neg h3, if_neg (show ¬ i < j + k by omega)]
        by_cases h4 : i < W
        · rw [decide_eq_true (show i - k < W - k by omega), decide_eq_true (show i - k - j < W - j by omega), decide_eq_true (show i - (j + k) < W - (j + k) by omega)]
          simp only [Bool.true_and]; congr 1; omega
        · rw [decide_eq_false (show ¬ i - k < W - k by omega), decide_eq_false (show ¬ i - (j + k) < W - (j + k) by omega)]; rfl
  · rw [if_neg h1]
    by_cases h2 : i < k
    · rw [if_pos h2]
      by_cases h3 : W - k + i < j
      · rw [if_pos h3, if_pos (show i < j + k - W by omega)]; congr 1; omega
      · rw [if_neg h3, if_neg (show ¬ i < j + k - W by omega)]
        rw [decide_eq_true (show W - k + i - j < W - j by omega), decide_eq_true (show i - (j + k - W) < W - (j + k - W) by omega)]
        simp only [Bool.true_and]; congr 1; omega
    · rw [if_neg h2, if_neg (show ¬ i < j + k - W by omega)]
      by_cases h4 : i < W
      · rw [if_pos (show i - k < j by omega), decide_eq_true (show i - k < W - k by omega), decide_eq_true (show i - (j + k - W) < W - (j + k - W) by omega)]
        simp only [Bool.true_and]; congr 1; omega
      · rw [decide_eq_false (show ¬ i - k < W - k by omega), decide_eq_false (show ¬ i - (j + k - W) < W - (j + k - W) by omega)]; rfl

theorem rot_zero {W x : Nat} (hx : x < 2 ^ W) : rot W x 0 = x := by
  unfold rot
  rw [Nat.sub_zero, Nat.mod_eq_of_lt hx, Nat.div_eq_of_lt hx]; simp

/-- As the program does it. -/
theorem rot_or {W x k : Nat} (hx : x < 2 ^ W) (hk : k < W) (hW : W ≤ 64) : ((x * 2 ^ k % 18446744073709551616) ||| x / 2 ^ (W - k)) % 2 ^ W = rot W x k := by
  apply Nat.eq_of_testBit_eq
  intro i
  have e64 : (18446744073709551616 : Nat) = 2 ^ 64 := rfl
  rw [rot_bit hx (by omega), Nat.testBit_mod_two_pow, Nat.testBit_or, e64, Nat.testBit_mod_two_pow, Nat.mul_comm x, Nat.testBit_two_pow_mul, Nat.testBit_div_two_pow]
  by_cases h1 : i < k
  · rw [if_pos h1, decide_eq_true (show i < W by omega), decide_eq_false (show ¬ k ≤ i by omega)]
    simp only [Bool.true_and, Bool.false_and, Bool.and_false, Bool.false_or]; congr 1; omega
  · rw [if_neg h1, bit_above (i := i + (W - k)) hx (by omega)]
    by_cases h2 : i < W
    · rw [decide_eq_true h2, decide_eq_true (show i < 64 by omega), decide_eq_true (show k ≤ i by omega), decide_eq_true (show i - k < W - k by omega)]; simp
    · rw [decide_eq_false h2, decide_eq_false (show ¬ i - k < W - k by omega)]; rfl

/-- The turn that counts. -/
def tn (n : Int) (w : Int) : Nat := (n % ((8 * wd w : Nat) : Int)).toNat

theorem tn_lt (n w : Int) : tn n w < 8 * wd w := by
  have := wd_pos w
  unfold tn
  have h1 : 0 ≤ n % ((8 * wd w : Nat) : Int) := Int.emod_nonneg _ (by omega)
  have h2 : n % ((8 * wd w : Nat) : Int) < ((8 * wd w : Nat) : Int) := Int.emod_lt_of_pos _ (by omega)
  omega

theorem bits_all (n : Int) : imul .i64 8 (fn46 n) = ((8 * wd n : Nat) : Int) := by
  have h := wd_pos n
  rw [wide_eq]
  unfold imul; rw [i64_small (by omega) (by omega)]; omega

theorem modW {x : Int} {m : Nat} (hm : 0 < m) (hm2 : m ≤ 64) : irem .i64 (iadd .i64 (irem .i64 x (m : Int)) (m : Int)) (m : Int) = (((x % (m : Int)).toNat : Nat) : Int) := by
  have hp : 0 < (m : Int) := by omega
  unfold irem iadd
  have h1 : -(m : Int) < x.tmod m ∧ x.tmod m < m := ⟨Int.lt_tmod_of_pos _ hp, Int.tmod_lt_of_pos _ hp⟩
  rw [i64_small (by omega) (by omega)]
  have h2 : (x.tmod m + m).tmod m = (x.tmod m + m) % m := Int.tmod_eq_emod_of_nonneg (by omega)
  rw [h2]
  have h0 : 0 ≤ x % (m : Int) := Int.emod_nonneg _ (by omega)
  have h4 : (x.tmod m + m) % m = x % m := by
    rw [Int.add_emod_right]
    have : x = m * (x.tdiv m) + x.tmod m := (Int.mul_tdiv_add_tmod x m).symm
    conv => rhs; rw [this]
    rw [Int.mul_add_emod_self_left]
  rw [h4]; omega

def turn (a : Nat) (n w : Int) : Nat := rot (8 * wd w) (cut a w) (tn n w)

theorem turn_lt (a : Nat) (n w : Int) : turn a n w < 2 ^ (8 * wd w) := rot_lt (cut_lt a w) (Nat.le_of_lt (tn_lt n w))

theorem turn_eq {a : Nat} (ha : a < 18446744073709551616) (n w : Int) : pre20 ((a : Int), (n, w)) ∧ fn20 ((a : Int), (n, w)) = (turn a n w : Int) := by
  have h := wd_pos w
  have ht := tn_lt n w
  have hr : irem .i64 (iadd .i64 (irem .i64 n (imul .i64 8 (fn46 w))) (imul .i64 8 (fn46 w))) (imul .i64 8 (fn46 w)) = (tn n w : Int) := by
    rw [bits_all]; exact modW (by omega) (by omega)
  have hs : isub .i64 (imul .i64 8 (fn46 w)) (tn n w : Int) = ((8 * wd w - tn n w : Nat) : Int) := by
    rw [bits_all]; unfold isub; rw [i64_small (by omega) (by omega)]; omega
  have hc := cut_64 a w
  have hn : ∀ k : Nat, k < 64 → ishl .u64 (cut a w : Int) (k : Int) = ((cut a w * 2 ^ k % 18446744073709551616 : Nat) : Int) := fun k hk => ishl_u64 hk
  constructor
  · refine ⟨wide_ok w, ?_, ?_, cut_ok _ _, ?_, ?_, cut_ok _ _, trivial⟩
    · change imul .i64 8 (fn46 w) ≠ 0; rw [bits_all]; omega
    · change imul .i64 8 (fn46 w) ≠ 0; rw [bits_all]; omega
    · change 0 ≤ irem .i64 (iadd .i64 (irem .i64 n (imul .i64 8 (fn46 w))) (imul .i64 8 (fn46 w))) (imul .i64 8 (fn46 w)); rw [hr]; omega
    · change 0 ≤ isub .i64 (imul .i64 8 (fn46 w)) (irem .i64 (iadd .i64 (irem .i64 n (imul .i64 8 (fn46 w))) (imul .i64 8 (fn46 w))) (imul .i64 8 (fn46 w))); rw [hr, hs]; omega
  · change fn14 (ior .u64 (ishl .u64 (fn14 ((a : Int), w)) (irem .i64 (iadd .i64 (irem .i64 n (imul .i64 8 (fn46 w))) (imul .i64 8 (fn46 w))) (imul .i64 8 (fn46 w)))) (ishr .u64 (fn14 ((a : Int), w)) (isub .i64 (imul .i64 8 (fn46 w)) (irem .i64 (iadd .i64 (irem .i64 n (imul .i64 8 (fn46 w))) (imul .i64 8 (fn46 w))) (imul .i64 8 (fn46 w))))), w) = _
    rw [hr, hs, cut_eq ha, hn _ (by omega)]
    have hsh : ishr .u64 (cut a w : Int) ((8 * wd w - tn n w : Nat) : Int) = ((cut a w / 2 ^ (8 * wd w - tn n w) : Nat) : Int) := by
      by_cases h64 : 8 * wd w - tn n w < 64
      · exact ishr_u64 h64
      · have e64 : 8 * wd w - tn n w = 64 := by omega
        rw [e64]
        have : cut a w / 2 ^ 64 = 0 := Nat.div_eq_of_lt hc
        rw [this]
        simp only [ishr, IntKind.bits, Int.toNat_natCast]
        rw [show min 64 64 = 64 from rfl, Int.fdiv_eq_ediv_of_nonneg _ (Int.le_of_lt (Int.pow_pos (by decide)))]
        omega
    rw [hsh]
    have l1 : cut a w * 2 ^ tn n w % 18446744073709551616 < 18446744073709551616 := Nat.mod_lt _ (by decide)
    have l2 : cut a w / 2 ^ (8 * wd w - tn n w) < 18446744073709551616 := Nat.lt_of_le_of_lt (Nat.div_le_self _ _) hc
    rw [ior_u64 l1 l2, cut_eq (Nat.or_lt_two_pow (n := 64) l1 l2)]
    congr 1
    exact rot_or (cut_lt a w) ht (by omega)

theorem cut_small {x : Nat} {w : Int} (h : x < 2 ^ (8 * wd w)) : cut x w = x := Nat.mod_eq_of_lt h

theorem turn_turn (a : Nat) (n m k w : Int) (h : (n + m) % ((8 * wd w : Nat) : Int) = k % ((8 * wd w : Nat) : Int)) : turn (turn a n w) m w = turn a k w := by
  have hw := wd_pos w
  unfold turn
  rw [cut_small (rot_lt (cut_lt a w) (Nat.le_of_lt (tn_lt n w))), rot_rot (cut_lt a w) (tn_lt n w) (tn_lt m w)]
  congr 1
  unfold tn
  generalize hM : 8 * wd w = M at h
  have hp : (M : Int) ≠ 0 := by omega
  rw [← h, Int.add_emod]
  have h1 : 0 ≤ n % (M : Int) := Int.emod_nonneg _ hp
  have h2 : 0 ≤ m % (M : Int) := Int.emod_nonneg _ hp
  obtain ⟨x, hx⟩ := Int.eq_ofNat_of_zero_le h1
  obtain ⟨y, hy⟩ := Int.eq_ofNat_of_zero_le h2
  rw [hx, hy]
  have : ((x : Int) + (y : Int)) % (M : Int) = (((x + y) % M : Nat) : Int) := by push_cast; rfl
  rw [this]; rfl

theorem turn_full (a : Nat) (k w : Int) (h : k % ((8 * wd w : Nat) : Int) = 0) : turn a k w = cut a w := by
  unfold turn tn
  rw [h]
  exact rot_zero (cut_lt a w)
end Go.Eng.RA
end
section
/- The plain law of BitsParity. -/
namespace Go.Eng.RA
open Go.Eng
set_option maxRecDepth 100000

theorem u64_nat {x : Int} (w : (Lit.int .u64 x).wf = true) : ∃ a : Nat, x = a ∧ a < 18446744073709551616 := by
  have : 0 ≤ x ∧ x ≤ 18446744073709551615 := by simpa [Lit.wf, IntKind.min, IntKind.max, IntKind.signed, IntKind.bits] using w
  exact ⟨x.toNat, by omega, by omega⟩

theorem i64_rng {x : Int} (w : (Lit.int .i64 x).wf = true) : -9223372036854775808 ≤ x ∧ x ≤ 9223372036854775807 := by
  simpa [Lit.wf, IntKind.min, IntKind.max, IntKind.signed, IntKind.bits] using w

theorem mod64 {x : Int} (h : -9223372036854775808 ≤ x ∧ x ≤ 9223372036854775807) : irem .i64 (iadd .i64 (irem .i64 x 64) 64) 64 = (((x % 64).toNat : Nat) : Int) := by
  unfold irem iadd
  have h1 : -64 < x.tmod 64 ∧ x.tmod 64 < 64 := ⟨Int.lt_tmod_of_pos _ (by decide), Int.tmod_lt_of_pos _ (by decide)⟩
  rw [i64_small (by omega) (by omega)]
  have h2 : (x.tmod 64 + 64).tmod 64 = (x.tmod 64 + 64) % 64 := Int.tmod_eq_emod_of_nonneg (by omega)
  rw [h2]
  have h3 : x.tmod 64 = if 0 ≤ x ∨ (64 : Int) ∣ x then x % 64 else x % 64 - 64 := by
    rw [Int.tmod_eq_emod]
    split <;> simp
  rw [h3]
  split <;> omega

theorem flip_low : ∀ b < 256, ∀ k < 8, par8 (b ^^^ 2 ^ k) = !par8 b := by decide +kernel

theorem parity_flip (a k : Nat) (hk : k < 64) : par8 ((a ^^^ 2 ^ k) % 256) = (if k < 8 then !par8 (a % 256) else par8 (a % 256)) := by
  have e : (a ^^^ 2 ^ k) % 256 = (a % 256) ^^^ (2 ^ k % 256) := Nat.xor_mod_two_pow (n := 8)
  rw [e]
  split
  · rename_i h
    rw [Nat.mod_eq_of_lt (a := 2 ^ k) (Nat.lt_of_lt_of_le (Nat.pow_lt_pow_right (by decide) h) (by decide))]
    exact flip_low _ (Nat.mod_lt _ (by decide)) k h
  · rename_i h
    have : 2 ^ k % 256 = 0 := by
      have : (2 : Nat) ^ k = 2 ^ 8 * 2 ^ (k - 8) := by rw [← Nat.pow_add]; congr 1; omega
      rw [this]; simp
    rw [this, Nat.xor_zero]

theorem bitsParity (x0 x1 : Int) (w0 : (Lit.int .u64 x0).wf = true) (w1 : (Lit.int .i64 x1).wf = true) : pre4 (x0, x1) ∧ fn4 (x0, x1) = true := by
  obtain ⟨a, rfl, ha⟩ := u64_nat w0
  have hk := mod64 (i64_rng w1)
  have hlt : (x1 % 64).toNat < 64 := by omega
  generalize (x1 % 64).toNat = k at hk hlt
  have hc : iconv .u64 (k : Int) = (k : Int) := by unfold iconv; rw [wrap_u64]; omega
  have hp : (2 : Nat) ^ k < 18446744073709551616 := Nat.lt_of_lt_of_le (Nat.pow_lt_pow_right (by decide) hlt) (by decide)
  have hs : ishl .u64 1 (k : Int) = ((2 ^ k : Nat) : Int) := by
    have := ishl_u64 (a := 1) hlt
    rw [Nat.one_mul, Nat.mod_eq_of_lt hp] at this
    exact this
  have hx : ixor .u64 (a : Int) ((2 ^ k : Nat) : Int) = ((a ^^^ 2 ^ k : Nat) : Int) := ixor_u64 ha hp
  have hl : ilt (k : Int) 8 = decide (k < 8) := by unfold ilt; simp; omega
  have c1 : cut a 1 % 256 = a % 256 := by unfold cut wd; simp
  unfold pre4 fn4 tree4 Tr.ok
  simp only [hk, hc, hs, hx, par_eq, hl, cut_eq ha, c1, parity_flip a k hlt, Tr.wp, Tr.val, wakes.2]
  have e : ((!(!(if k < 8 then !par8 (a % 256) else par8 (a % 256))) == !par8 (a % 256)) == decide (k < 8)) = true := by
    by_cases h : k < 8 <;> simp [h] <;> cases par8 (a % 256) <;> rfl
  have e2 : ((!par8 (a % 256)) == !par8 (a % 256)) = true := by cases par8 (a % 256) <;> rfl
  rw [e, e2]
  exact ⟨⟨by decide, by decide, by omega, par_ok _, par_ok _, cut_ok _ _, par_ok _, par_ok _, wakes.1, trivial⟩, rfl⟩
end Go.Eng.RA
end
section
/- The plain law of BitsBack. -/
namespace Go.Eng.RA
open Go.Eng
set_option maxRecDepth 100000

theorem back_sum (a b : Nat) (c : Bool) (w : Int) :
    cut (rest (cut (sum a b c w) w) b c w) w = cut a w ∧ (decide (cut (cut (sum a b c w) w) w < cut b w + c.toNat) = decide (2 ^ (8 * wd w) ≤ sum a b c w)) := by
  have hA := cut_lt a w
  have hB := cut_lt b w
  have hc : c.toNat ≤ 1 := by cases c <;> decide
  have hcc : cut (cut (sum a b c w) w) w = cut (sum a b c w) w := cut_small (cut_lt _ w)
  unfold rest
  rw [mod_64_cut, hcc]
  unfold sum
  generalize cut a w = A at *
  generalize cut b w = B at *
  generalize c.toNat = k at *
  unfold cut
  rcases wd_cases w with h | h | h | h | h | h | h | h <;> rw [h] at hA hB ⊢ <;> simp only [Nat.reduceMul, Nat.reducePow] at hA hB ⊢ <;> refine ⟨by omega, ?_⟩ <;> rw [decide_eq_decide] <;> omega

theorem ext_ext (a : Nat) (w : Int) : ext (ext a w) w = ext a w := by
  unfold ext sg cut
  rcases wd_cases w with h | h | h | h | h | h | h | h <;> rw [h] <;> simp only [Nat.reduceMul, Nat.reduceSub, Nat.reducePow, decide_eq_true_eq] <;> split <;> split <;> omega

theorem ext_64 (a : Nat) (w : Int) : ext a w < 18446744073709551616 := by
  unfold ext sg cut
  rcases wd_cases w with h | h | h | h | h | h | h | h <;> rw [h] <;> simp only [Nat.reduceMul, Nat.reduceSub, Nat.reducePow, decide_eq_true_eq] <;> split <;> omega

theorem bitsBack (x0 x1 x2 x3 : Int) (x4 : Bool) (w0 : (Lit.int .u64 x0).wf = true) (w1 : (Lit.int .u64 x1).wf = true) (w3 : (Lit.int .i64 x3).wf = true) :
    pre5 (x0, (x1, (x2, (x3, x4)))) ∧ fn5 (x0, (x1, (x2, (x3, x4)))) = true := by
  obtain ⟨a, rfl, ha⟩ := u64_nat w0
  obtain ⟨b, rfl, hb⟩ := u64_nat w1
  have hn := i64_rng w3
  have h15 := add_eq ha hb x4 x2
  have h16 := sub_eq (a := cut (sum a b x4 x2) x2) (cut_64 _ _) hb x4 x2
  have hbk := back_sum a b x4 x2
  have hs1 : fn16 ((addF a b x4 x2).1, ((b : Int), (x4, x2))) = subF (cut (sum a b x4 x2) x2) b x4 x2 := h16.2
  have hp1 : pre16 ((fn15 ((a : Int), ((b : Int), (x4, x2)))).1, ((b : Int), (x4, x2))) := by rw [h15.2]; exact h16.1
  have e1 : (subF (cut (sum a b x4 x2) x2) b x4 x2).1 = ((cut a x2 : Nat) : Int) := by
    change ((cut (rest (cut (sum a b x4 x2) x2) b x4 x2) x2 : Nat) : Int) = _
    rw [hbk.1]
  have e2 : (subF (cut (sum a b x4 x2) x2) b x4 x2).2.1 = (addF a b x4 x2).2.1 := hbk.2
  have hlen : (((bytesOf a (wd x2)).length : Nat) : Int) = imin (imax x2 1) 8 := by
    rw [bytesOf_len]; exact (wide_eq x2).symm
  have hw := wd_pos x2
  have h19 : fn19 (bytesOf a (wd x2)) = ((cut a x2 : Nat) : Int) := number_eq a (wd x2) hw.2
  have h19k := number_ok a (wd x2) hw.2
  unfold pre5 fn5 tree5 Tr.ok
  simp only [Tr.wp, Tr.val]
  by_cases g1 : 1099511627776 < x3
  · have : ilt 1099511627776 x3 = true := by simp [ilt, g1]
    simp only [this, show ((true : Bool) == false) = false from rfl, cond_false]
    exact ⟨⟨bytes_ok a x2, h15.1, hp1, wakes.1, trivial⟩, wakes.2⟩
  · have g1' : ilt 1099511627776 x3 = false := by simp [ilt]; omega
    simp only [g1', show ((false : Bool) == false) = true from rfl, cond_true]
    by_cases g2 : x3 < -1099511627776
    · have : ilt x3 (-1099511627776) = true := by simp [ilt, g2]
      simp only [this, cond_true]
      exact ⟨⟨bytes_ok a x2, h15.1, hp1, wakes.1, trivial⟩, wakes.2⟩
    · have g2' : ilt x3 (-1099511627776) = false := by simp [ilt]; omega
      have hneg : ineg .i64 x3 = -x3 := by unfold ineg; rw [i64_small (by omega) (by omega)]; omega
      have t1 := turn_eq ha x3 x2
      have t2 := turn_eq (a := turn a x3 x2) (Nat.lt_of_lt_of_le (turn_lt a x3 x2) (pw_le x2)) (-x3) x2
      have t3 : turn (turn a x3 x2) (-x3) x2 = cut a x2 := by
        rw [turn_turn a x3 (-x3) 0 x2 (by rw [Int.add_right_neg]), turn_full a 0 x2 (by simp)]
      have he := ext_eq a x2
      have he2 : fn13 ((ext a x2 : Nat), x2) = ((ext a x2 : Nat) : Int) := by rw [ext_eq, ext_ext]
      have re : ∀ z : Int, (ieq z z == true) = true := fun z => by simp [ieq]
      have re2 : ∀ z : Bool, ((z == z) == true) = true := fun z => by cases z <;> rfl
      simp only [g2', cond_false, bytes_eq, hlen, h19, cut_eq ha, hs1, e1, e2, h15.2, hneg, t1.2, t2.2, t3, he, he2, re, re2, cond_true]
      refine ⟨⟨bytes_ok a x2, h15.1, h16.1, h19k, cut_ok _ _, cut_ok _ _, t1.1, t2.1, cut_ok _ _, ext_ok _ _, ext_ok _ _, ext_ok _ _, wakes.1, trivial⟩, wakes.2⟩
end Go.Eng.RA
end
section
/- The plain law of BitsTurn. -/
namespace Go.Eng.RA
open Go.Eng
set_option maxRecDepth 100000

/-- How many of the lowest bits are ones. -/
def pc (x : Nat) : Nat → Nat
  | 0 => 0
  | i + 1 => pc x i + x / 2 ^ i % 2

theorem pc_add (x i : Nat) : ∀ j, pc x (i + j) = pc x i + pc (x / 2 ^ i) j
  | 0 => rfl
  | j + 1 => by
    rw [← Nat.add_assoc, pc, pc_add x i j, pc, Nat.div_div_eq_div_mul, ← Nat.pow_add]; omega

theorem pc_zero : ∀ j, pc 0 j = 0
  | 0 => rfl
  | j + 1 => by rw [pc, pc_zero j, Nat.zero_div]

theorem pc_mod (x i : Nat) : ∀ j, j ≤ i → pc (x % 2 ^ i) j = pc x j
  | 0, _ => rfl
  | j + 1, h => by
    rw [pc, pc, pc_mod x i j (by omega)]
    congr 1
    have e : 2 ^ i = 2 ^ j * (2 * 2 ^ (i - j - 1)) := by
      rw [← Nat.pow_succ', ← Nat.pow_add]; congr 1; omega
    rw [e, Nat.mod_mul_right_div_self, Nat.mod_mul_right_mod]

theorem pc_rot {W x k : Nat} (hx : x < 2 ^ W) (hk : k ≤ W) : pc (rot W x k) W = pc x W := by
  have h1 := rot_hi hx hk
  have e1 : pc (rot W x k) W = pc (rot W x k) (k + (W - k)) := by congr 1; omega
  have e2 : pc x W = pc x ((W - k) + k) := by congr 1; omega
  have hp : 0 < 2 ^ k := Nat.pow_pos (by decide)
  have m1 : rot W x k % 2 ^ k = x / 2 ^ (W - k) := by
    unfold rot; rw [Nat.mul_add_mod, Nat.mod_eq_of_lt h1]
  have m2 : rot W x k / 2 ^ k = x % 2 ^ (W - k) := by
    unfold rot; rw [Nat.mul_add_div hp, Nat.div_eq_of_lt h1]; rfl
  rw [e1, e2, pc_add, pc_add, m2, ← pc_mod _ k k (Nat.le_refl _), m1, pc_mod _ _ _ (Nat.le_refl _)]
  omega

theorem pc_64 {W x : Nat} (hx : x < 2 ^ W) (hW : W ≤ 64) : pc x 64 = pc x W := by
  have e : pc x 64 = pc x (W + (64 - W)) := by congr 1; omega
  rw [e, pc_add, Nat.div_eq_of_lt hx, pc_zero]; rfl

theorem pc_le (x : Nat) : ∀ i, pc x i ≤ i
  | 0 => Nat.le_refl _
  | i + 1 => by have := pc_le x i; rw [pc]; omega

theorem low_bit (b : Nat) : iand .u64 (b : Int) 1 = ((b % 2 : Nat) : Int) := by
  have e1 : iand .u64 (b : Int) 1 = IntKind.wrap .u64 ((BitVec.ofInt 64 (b : Int) &&& BitVec.ofInt 64 ((1 : Nat) : Int)).toNat : Nat) := rfl
  rw [e1, BitVec.toNat_and, ofInt_nat (b := 64) (a := 1) (by decide), BitVec.ofInt_natCast, BitVec.toNat_ofNat, Nat.and_one_is_mod, wrap_u64]
  have : b % 2 ^ 64 % 2 = b % 2 := Nat.mod_mod_of_dvd _ (by decide)
  rw [this]; omega

theorem bit_at (x i : Nat) (hi : i < 64) : iconv .i64 (iand .u64 (ishr .u64 (x : Int) (iconv .u64 (i : Int))) 1) = ((x / 2 ^ i % 2 : Nat) : Int) := by
  have hc : iconv .u64 (i : Int) = (i : Int) := by unfold iconv; rw [wrap_u64]; omega
  rw [hc, ishr_u64 hi, low_bit]
  unfold iconv
  exact i64_small (by omega) (by omega)

theorem bitsTurn (x0 x1 x2 x3 : Int) (w0 : (Lit.int .u64 x0).wf = true) (w1 : (Lit.int .i64 x1).wf = true) (w2 : (Lit.int .i64 x2).wf = true) :
    Ends (step6 (x0, (x1, (x2, x3)))) true (tree6 (x0, (x1, (x2, x3)))) := by
  obtain ⟨a, rfl, ha⟩ := u64_nat w0
  have hn := i64_rng w1
  have hm := i64_rng w2
  have hw := wd_pos x3
  have hwk := wakes
  unfold tree6
  by_cases g1 : 1099511627776 < imax x1 x2
  · have : ilt 1099511627776 (imax x1 x2) = true := by simp [ilt, g1]
    simp only [this, show ((true : Bool) == false) = false from rfl]
    refine .no _ _ (.need _ _ hwk.1 ?_)
    rw [hwk.2]; exact .ret
  · have g1' : ilt 1099511627776 (imax x1 x2) = false := by simp [ilt]; omega
    simp only [g1', show ((false : Bool) == false) = true from rfl]
    refine .yes _ _ ?_
    by_cases g2 : imin x1 x2 < -1099511627776
    · have : ilt (imin x1 x2) (-1099511627776) = true := by simp [ilt, g2]
      simp only [this]
      refine .yes _ _ (.need _ _ hwk.1 ?_)
      rw [hwk.2]; exact .ret
    · have g2' : ilt (imin x1 x2) (-1099511627776) = false := by simp [ilt]; omega
      have b1 : -1099511627776 ≤ x1 ∧ x1 ≤ 1099511627776 ∧ -1099511627776 ≤ x2 ∧ x2 ≤ 1099511627776 := by
        unfold imax at g1; unfold imin at g2; split at g1 <;> split at g2 <;> omega
      simp only [g2']
      have hall : imul .i64 8 (imin (imax x3 1) 8) = ((8 * wd x3 : Nat) : Int) := bits_all x3
      have t1 := turn_eq ha x1 x3
      have ht64 : turn a x1 x3 < 18446744073709551616 := Nat.lt_of_lt_of_le (turn_lt a x1 x3) (pw_le x3)
      have t2 := turn_eq ht64 x2 x3
      have hadd : iadd .i64 x1 x2 = x1 + x2 := by unfold iadd; exact i64_small (by omega) (by omega)
      have t3 := turn_eq ha (x1 + x2) x3
      have t4 := turn_eq ha ((8 * wd x3 : Nat) : Int) x3
      have hneg : ineg .i64 ((8 * wd x3 : Nat) : Int) = -((8 * wd x3 : Nat) : Int) := by unfold ineg; rw [i64_small (by omega) (by omega)]; omega
      have t5 := turn_eq ha (-((8 * wd x3 : Nat) : Int)) x3
      have q1 : turn (turn a x1 x3) x2 x3 = turn a (x1 + x2) x3 := turn_turn a x1 x2 (x1 + x2) x3 rfl
      have q2 : turn a ((8 * wd x3 : Nat) : Int) x3 = cut a x3 := turn_full a _ x3 (Int.emod_self)
      have q3 : turn a (-((8 * wd x3 : Nat) : Int)) x3 = cut a x3 := turn_full a _ x3 (by rw [Int.neg_emod_self])
      have hpc : pc (turn a x1 x3) 64 = pc (cut a x3) 64 := by
        rw [pc_64 (turn_lt a x1 x3) (by omega), pc_64 (cut_lt a x3) (by omega)]
        exact pc_rot (cut_lt a x3) (Nat.le_of_lt (tn_lt x1 x3))
      have re : ∀ z : Int, (ieq z z == true) = true := fun z => by simp [ieq]
      refine .no _ _ (.need _ _ t1.1 (.jump _ ?_))
      rw [hall, t1.2]
      have go : ∀ (d i : Nat), 64 = i + d → Ends (step6 ((a : Int), (x1, (x2, x3)))) true (step6 ((a : Int), (x1, (x2, x3))) (.h0 ((8 * wd x3 : Nat) : Int) ((turn a x1 x3 : Nat) : Int) ((pc (turn a x1 x3) i : Int) - (pc (cut a x3) i : Int)) (i : Int))) := by
        intro d
        induction d with
        | zero =>
          intro i hi
          obtain rfl : i = 64 := by omega
          have hc : ilt ((64 : Nat) : Int) 64 = false := by decide
          have hz : ieq ((pc (turn a x1 x3) 64 : Int) - (pc (cut a x3) 64 : Int)) 0 = true := by rw [hpc]; simp [ieq]
          simp only [step6, hc, hz, t2.2, hadd, t3.2, t4.2, hneg, t5.2, q1, q2, q3, cut_eq ha, re]
          exact .no _ _ (.yes _ _ (.need _ _ t2.1 (.need _ _ t3.1 (.yes _ _ (.need _ _ t4.1 (.need _ _ (cut_ok _ _) (.yes _ _ (.need _ _ t5.1 (.need _ _ (cut_ok _ _) (.yes _ _ (.need _ _ hwk.1 (by rw [hwk.2]; exact .ret))))))))))))
        | succ d ih =>
          intro i hi
          have hc : ilt (i : Int) 64 = true := by simp [ilt]; omega
          have hcv : iconv .u64 (i : Int) = (i : Int) := by unfold iconv; rw [wrap_u64]; omega
          have l1 := pc_le (turn a x1 x3) i
          have l2 := pc_le (cut a x3) i
          have hst : isub .i64 (iadd .i64 ((pc (turn a x1 x3) i : Int) - (pc (cut a x3) i : Int)) (iconv .i64 (iand .u64 (ishr .u64 ((turn a x1 x3 : Nat) : Int) (iconv .u64 (i : Int))) 1))) (iconv .i64 (iand .u64 (ishr .u64 ((cut a x3 : Nat) : Int) (iconv .u64 (i : Int))) 1)) =
              (pc (turn a x1 x3) (i + 1) : Int) - (pc (cut a x3) (i + 1) : Int) := by
            rw [bit_at _ i (by omega), bit_at _ i (by omega), pc, pc]
            unfold isub iadd
            rw [i64_small (x := _ + _) (by omega) (by omega), i64_small (by omega) (by omega)]
            omega
          have e2 : iadd .i64 (i : Int) 1 = ((i + 1 : Nat) : Int) := by unfold iadd; rw [i64_small (by omega) (by omega)]; omega
          simp only [step6, hc, cut_eq ha, hst, e2]
          exact .yes _ _ (.need _ _ (by rw [hcv]; omega) (.need _ _ (cut_ok _ _) (.need _ _ (by rw [hcv]; omega) (.jump _ (ih (i + 1) (by omega))))))
      have := go 64 0 (by omega)
      simpa [pc] using this
end Go.Eng.RA
end
section
/- The plain law of BitsSigned. -/
namespace Go.Eng.RA
open Go.Eng
set_option maxRecDepth 100000

theorem sval (a : Nat) (w : Int) (T : Nat) (hw : wd w ≤ 4) (hT : 2 ^ (8 * wd w - 1) = T) :
    iconv .i64 ((ext a w : Nat) : Int) = if cut a w < T then (cut a w : Int) else (cut a w : Int) - 2 * T := by
  subst hT
  unfold ext sg cut iconv
  rw [wrap_i64]
  rcases wd_cases w with h | h | h | h | h | h | h | h <;> rw [h] at hw ⊢ <;> simp only [Nat.reduceMul, Nat.reduceSub, Nat.reducePow, decide_eq_true_eq] <;> split <;> split <;> omega

theorem sg_bit (a : Nat) (w : Int) : sg a w = a.testBit (8 * wd w - 1) := by
  rw [Nat.testBit_eq_decide_div_mod_eq]; rfl

theorem sg_top (a : Nat) (w : Int) (T : Nat) (hT : 2 ^ (8 * wd w - 1) = T) (h : a < 2 ^ (8 * wd w)) : sg a w = decide (T ≤ a) := by
  have hw := wd_pos w
  have e : 2 ^ (8 * wd w) = 2 * T := by rw [← hT, ← Nat.pow_succ']; congr 1; omega
  rw [e] at h
  unfold sg
  rw [hT, decide_eq_decide]
  have hp : 0 < T := by rw [← hT]; exact Nat.pow_pos (by decide)
  by_cases hl : T ≤ a
  · have : a / T = 1 := by rw [Nat.div_eq_iff hp]; omega
    rw [this]; simp [hl]
  · rw [Nat.div_eq_of_lt (by omega)]; simp [hl]

theorem xor_dec (p q : Prop) [Decidable p] [Decidable q] : ((decide p ^^ decide q) = true) ↔ (p ∧ ¬q ∨ ¬p ∧ q) := by
  by_cases hp : p <;> by_cases hq : q <;> simp [hp, hq]

theorem mod2 (S T : Nat) (h : S < 4 * T) : S % (2 * T) = if S < 2 * T then S else S - 2 * T := by
  split
  · exact Nat.mod_eq_of_lt ‹_›
  · rw [Nat.mod_eq_sub_mod (by omega), Nat.mod_eq_of_lt (by omega)]

theorem over_add (A B k T : Nat) (hA : A < 2 * T) (hB : B < 2 * T) (hk : k ≤ 1) :
    ((decide (T ≤ A) ^^ decide (T ≤ (A + B + k) % (2 * T))) && (decide (T ≤ B) ^^ decide (T ≤ (A + B + k) % (2 * T)))) =
      (decide ((T : Int) ≤ (if A < T then (A : Int) else (A : Int) - 2 * T) + (if B < T then (B : Int) else (B : Int) - 2 * T) + k) ||
       decide ((if A < T then (A : Int) else (A : Int) - 2 * T) + (if B < T then (B : Int) else (B : Int) - 2 * T) + k < -(T : Int))) := by
  rw [mod2 _ _ (by omega), Bool.eq_iff_iff]
  simp only [Bool.and_eq_true, Bool.or_eq_true, xor_dec, decide_eq_true_eq]
  split <;> split <;> split <;> omega

theorem over_sub (A B k T : Nat) (hA : A < 2 * T) (hB : B < 2 * T) (hk : k ≤ 1) :
    ((decide (T ≤ A) ^^ decide (T ≤ B)) && (decide (T ≤ A) ^^ decide (T ≤ (A + 2 * T - B - k + 2 * T) % (2 * T)))) =
      (decide ((T : Int) ≤ (if A < T then (A : Int) else (A : Int) - 2 * T) - (if B < T then (B : Int) else (B : Int) - 2 * T) - k) ||
       decide ((if A < T then (A : Int) else (A : Int) - 2 * T) - (if B < T then (B : Int) else (B : Int) - 2 * T) - k < -(T : Int))) := by
  by_cases hd : A = 0 ∧ B = 2 * T - 1 ∧ k = 1
  · obtain ⟨rfl, rfl, rfl⟩ := hd
    have : (0 + 2 * T - (2 * T - 1) - 1 + 2 * T) % (2 * T) = 0 := by
      rw [show 0 + 2 * T - (2 * T - 1) - 1 + 2 * T = 2 * T by omega, Nat.mod_self]
    rw [this, Bool.eq_iff_iff]
    simp only [Bool.and_eq_true, Bool.or_eq_true, xor_dec, decide_eq_true_eq]
    split <;> split <;> omega
  · rw [Nat.add_mod_right, mod2 _ _ (by omega), Bool.eq_iff_iff]
    simp only [Bool.and_eq_true, Bool.or_eq_true, xor_dec, decide_eq_true_eq]
    split <;> split <;> split <;> omega

theorem rest_cut (a b : Nat) (c : Bool) (w : Int) (T : Nat) (hw : wd w ≤ 4) (hT : 2 ^ (8 * wd w - 1) = T) : cut (rest a b c w) w = (cut a w + 2 * T - cut b w - c.toNat + 2 * T) % (2 * T) := by
  subst hT
  have hA := cut_lt a w
  have hB := cut_lt b w
  have hc : c.toNat ≤ 1 := by cases c <;> decide
  unfold rest
  rw [mod_64_cut]
  generalize cut a w = A at *
  generalize cut b w = B at *
  generalize c.toNat = k at *
  unfold cut
  rcases wd_cases w with h | h | h | h | h | h | h | h <;> rw [h] at hw hA hB ⊢ <;> simp only [Nat.reduceMul, Nat.reduceSub, Nat.reducePow] at hA hB ⊢ <;> omega

structure SignedFacts (a b : Nat) (c : Bool) (w : Int) (T : Nat) (k : Int) : Prop where
  over : (addF a b c w).2.2 = (decide ((T : Int) ≤ (if cut a w < T then (cut a w : Int) else (cut a w : Int) - 2 * T) + (if cut b w < T then (cut b w : Int) else (cut b w : Int) - 2 * T) + k) ||
       decide ((if cut a w < T then (cut a w : Int) else (cut a w : Int) - 2 * T) + (if cut b w < T then (cut b w : Int) else (cut b w : Int) - 2 * T) + k < -(T : Int)))
  out : (addF a b c w).2.1 = decide (2 * (T : Int) ≤ (cut a w : Int) + (cut b w : Int) + k)
  runs : (subF a b c w).2.2 = (decide ((T : Int) ≤ (if cut a w < T then (cut a w : Int) else (cut a w : Int) - 2 * T) - (if cut b w < T then (cut b w : Int) else (cut b w : Int) - 2 * T) - k) ||
       decide ((if cut a w < T then (cut a w : Int) else (cut a w : Int) - 2 * T) - (if cut b w < T then (cut b w : Int) else (cut b w : Int) - 2 * T) - k < -(T : Int)))
  low : (subF a b c w).2.1 = decide ((cut a w : Int) - (cut b w : Int) - k < 0)

theorem signed_facts (a b : Nat) (c : Bool) (w : Int) (T : Nat) (hw : wd w ≤ 4) (hT : 2 ^ (8 * wd w - 1) = T) : SignedFacts a b c w T (c.toNat : Int) := by
  have hp := wd_pos w
  have e : 2 ^ (8 * wd w) = 2 * T := by rw [← hT, ← Nat.pow_succ']; congr 1; omega
  have hA : cut a w < 2 * T := by rw [← e]; exact cut_lt a w
  have hB : cut b w < 2 * T := by rw [← e]; exact cut_lt b w
  have hc : c.toNat ≤ 1 := by cases c <;> decide
  refine ⟨?_, ?_, ?_, ?_⟩
  · rw [← over_add _ _ _ _ hA hB hc]
    change sg ((cut a w ^^^ cut (sum a b c w) w) &&& (cut b w ^^^ cut (sum a b c w) w)) w = _
    rw [sg_bit, Nat.testBit_and, Nat.testBit_xor, Nat.testBit_xor, ← sg_bit, ← sg_bit, ← sg_bit, sg_top _ w T hT (cut_lt _ _), sg_top _ w T hT (cut_lt _ _), sg_top _ w T hT (cut_lt _ _)]
    have : cut (sum a b c w) w = (cut a w + cut b w + c.toNat) % (2 * T) := by rw [← e]; rfl
    rw [this]
  · change decide (2 ^ (8 * wd w) ≤ cut a w + cut b w + c.toNat) = _
    rw [e, decide_eq_decide]; omega
  · rw [← over_sub _ _ _ _ hA hB hc]
    change sg ((cut a w ^^^ cut b w) &&& (cut a w ^^^ cut (rest a b c w) w)) w = _
    rw [sg_bit, Nat.testBit_and, Nat.testBit_xor, Nat.testBit_xor, ← sg_bit, ← sg_bit, ← sg_bit, sg_top _ w T hT (cut_lt _ _), sg_top _ w T hT (cut_lt _ _), sg_top _ w T hT (cut_lt _ _), rest_cut a b c w T hw hT]
  · change decide (cut a w < cut b w + c.toNat) = _
    rw [decide_eq_decide]; omega

theorem bitsSigned (x0 x1 x2 : Int) (x3 : Bool) (w0 : (Lit.int .u64 x0).wf = true) (w1 : (Lit.int .u64 x1).wf = true) :
    pre3 (x0, (x1, (x2, x3))) ∧ fn3 (x0, (x1, (x2, x3))) = true := by
  obtain ⟨a, rfl, ha⟩ := u64_nat w0
  obtain ⟨b, rfl, hb⟩ := u64_nat w1
  have hwk := wakes
  unfold pre3 fn3 tree3 Tr.ok
  simp only [Tr.wp, Tr.val]
  by_cases g1 : x2 < 1
  · have : ilt x2 1 = true := by simp [ilt, g1]
    simp only [this, show ((true : Bool) == false) = false from rfl, cond_false]
    exact ⟨⟨hwk.1, trivial⟩, hwk.2⟩
  · have g1' : ilt x2 1 = false := by simp [ilt]; omega
    simp only [g1', show ((false : Bool) == false) = true from rfl, cond_true]
    by_cases g2 : 4 < x2
    · have : ilt 4 x2 = true := by simp [ilt, g2]
      simp only [this, cond_true]
      exact ⟨⟨hwk.1, trivial⟩, hwk.2⟩
    · have g2' : ilt 4 x2 = false := by simp [ilt]; omega
      simp only [g2', cond_false]
      have hwd : (wd x2 : Int) = x2 := by unfold wd; split <;> (try split) <;> omega
      have hw4 : wd x2 ≤ 4 := by omega
      obtain ⟨T, hT, h6, h8, hT31⟩ : ∃ T : Nat, 2 ^ (8 * wd x2 - 1) = T ∧ isub .i64 (imul .i64 8 x2) 1 = ((8 * wd x2 - 1 : Nat) : Int) ∧ ishl .i64 1 ((8 * wd x2 - 1 : Nat) : Int) = (T : Int) ∧ T ≤ 2147483648 := by
        have hc : x2 = 1 ∨ x2 = 2 ∨ x2 = 3 ∨ x2 = 4 := by omega
        rcases hc with rfl | rfl | rfl | rfl
        · exact ⟨128, by decide, by decide, by decide, by decide⟩
        · exact ⟨32768, by decide, by decide, by decide, by decide⟩
        · exact ⟨8388608, by decide, by decide, by decide, by decide⟩
        · exact ⟨2147483648, by decide, by decide, by decide, by decide⟩
      have hp := wd_pos x2
      have e : 2 ^ (8 * wd x2) = 2 * T := by rw [← hT, ← Nat.pow_succ']; congr 1; omega
      have hA : cut a x2 < 2 * T := by rw [← e]; exact cut_lt a x2
      have hB : cut b x2 < 2 * T := by rw [← e]; exact cut_lt b x2
      have h15 := add_eq ha hb x3 x2
      have h16 := sub_eq ha hb x3 x2
      have hf := signed_facts a b x3 x2 T hw4 hT
      have hsa := sval a x2 T hw4 hT
      have hsb := sval b x2 T hw4 hT
      have hua : iconv .i64 ((cut a x2 : Nat) : Int) = (cut a x2 : Int) := by unfold iconv; exact i64_small (by omega) (by omega)
      have hub : iconv .i64 ((cut b x2 : Nat) : Int) = (cut b x2 : Int) := by unfold iconv; exact i64_small (by omega) (by omega)
      have hneg : ineg .i64 (T : Int) = -(T : Int) := by unfold ineg; rw [i64_small (by omega) (by omega)]; omega
      have h2T : imul .i64 2 (T : Int) = 2 * (T : Int) := by unfold imul; exact i64_small (by omega) (by omega)
      have rA : -(2147483648 : Int) ≤ (if cut a x2 < T then (cut a x2 : Int) else (cut a x2 : Int) - 2 * T) ∧ (if cut a x2 < T then (cut a x2 : Int) else (cut a x2 : Int) - 2 * T) ≤ 2147483648 := by split <;> omega
      have rB : -(2147483648 : Int) ≤ (if cut b x2 < T then (cut b x2 : Int) else (cut b x2 : Int) - 2 * T) ∧ (if cut b x2 < T then (cut b x2 : Int) else (cut b x2 : Int) - 2 * T) ≤ 2147483648 := by split <;> omega
      have six : ∀ z : Int, -100000000000 ≤ z → z ≤ 100000000000 → IntKind.wrap .i64 z = z := fun z p q => i64_small (by omega) (by omega)
      obtain ⟨f1, f2, f3, f4⟩ := hf
      rw [← h15.2] at f1 f2
      rw [← h16.2] at f3 f4
      generalize (if cut a x2 < T then (cut a x2 : Int) else (cut a x2 : Int) - 2 * T) = sa at hsa rA f1 f3
      generalize (if cut b x2 < T then (cut b x2 : Int) else (cut b x2 : Int) - 2 * T) = sb at hsb rB f1 f3
      simp only [h6, h8, ext_eq, hsa, hsb, cut_eq ha, cut_eq hb, hua, hub, hneg, h2T]
      simp only [ilt, ile, iadd, isub]
      cases x3 with
      | true =>
        simp only [cond_true, f1, f2, f3, f4, Bool.toNat_true]
        simp only [six (sa + sb) (by omega) (by omega), six (sa + sb + 1) (by omega) (by omega), six (sa - sb) (by omega) (by omega), six (sa - sb - 1) (by omega) (by omega), six ((cut a x2 : Int) + (cut b x2 : Int)) (by omega) (by omega), six ((cut a x2 : Int) + (cut b x2 : Int) + 1) (by omega) (by omega),
          six ((cut a x2 : Int) - (cut b x2 : Int)) (by omega) (by omega), six ((cut a x2 : Int) - (cut b x2 : Int) - 1) (by omega) (by omega)]
        have n6 : (0 : Int) ≤ ((8 * wd x2 - 1 : Nat) : Int) := by omega
        have k1 : (((1 : Nat) : Int)) = 1 := rfl
        simp only [k1]
        generalize decide ((T : Int) ≤ sa + sb + 1) = p
        generalize decide (sa + sb + 1 < -(T : Int)) = q
        generalize decide ((T : Int) ≤ sa - sb - 1) = p'
        generalize decide (sa - sb - 1 < -(T : Int)) = q'
        generalize decide (2 * (T : Int) ≤ (cut a x2 : Int) + (cut b x2 : Int) + 1) = r
        generalize decide ((cut a x2 : Int) - (cut b x2 : Int) - 1 < 0) = r'
        cases p <;> cases q <;> cases p' <;> cases q' <;> cases r <;> cases r' <;>
          exact ⟨⟨ext_ok _ _, ext_ok _ _, cut_ok _ _, cut_ok _ _, n6, h15.1, h16.1, hwk.1, trivial⟩, hwk.2⟩
      | false =>
        simp only [cond_false, f1, f2, f3, f4, Bool.toNat_false]
        simp only [six (sa + sb) (by omega) (by omega), six (sa + sb + 0) (by omega) (by omega), six (sa - sb) (by omega) (by omega), six (sa - sb - 0) (by omega) (by omega), six ((cut a x2 : Int) + (cut b x2 : Int)) (by omega) (by omega), six ((cut a x2 : Int) + (cut b x2 : Int) + 0) (by omega) (by omega),
          six ((cut a x2 : Int) - (cut b x2 : Int)) (by omega) (by omega), six ((cut a x2 : Int) - (cut b x2 : Int) - 0) (by omega) (by omega)]
        have n6 : (0 : Int) ≤ ((8 * wd x2 - 1 : Nat) : Int) := by omega
        have k0 : (((0 : Nat) : Int)) = 0 := rfl
        simp only [k0]
        generalize decide ((T : Int) ≤ sa + sb + 0) = p
        generalize decide (sa + sb + 0 < -(T : Int)) = q
        generalize decide ((T : Int) ≤ sa - sb - 0) = p'
        generalize decide (sa - sb - 0 < -(T : Int)) = q'
        generalize decide (2 * (T : Int) ≤ (cut a x2 : Int) + (cut b x2 : Int) + 0) = r
        generalize decide ((cut a x2 : Int) - (cut b x2 : Int) - 0 < 0) = r'
        cases p <;> cases q <;> cases p' <;> cases q' <;> cases r <;> cases r' <;>
          exact ⟨⟨ext_ok _ _, ext_ok _ _, cut_ok _ _, cut_ok _ _, n6, h15.1, h16.1, hwk.1, trivial⟩, hwk.2⟩
end Go.Eng.RA
end
section
/- Plain laws: lengths of words, quotients of two words by one. -/
namespace Go.Eng.RA
open Go.Eng
set_option maxRecDepth 100000

theorem len_tab : ∀ b < 256, iconv .i64 (strAt str1 b) ≤ 8 ∧ 0 ≤ iconv .i64 (strAt str1 b) ∧ b < 2 ^ (iconv .i64 (strAt str1 b)).toNat ∧ (b ≠ 0 → 2 ^ (iconv .i64 (strAt str1 b)).toNat ≤ 2 * b) := by decide +kernel

theorem str1_size : str1.size = 256 := by kernel_rfl

/-- 'n' is how many bits 'x' needs. -/
def IsLen (x : Nat) (n : Int) : Prop := ∃ t : Nat, n = t ∧ t ≤ 64 ∧ x < 2 ^ t ∧ (x ≠ 0 → 2 ^ t ≤ 2 * x)

theorem len_leaf (x b k : Nat) (hb : b = x / 2 ^ k) (hlt : b < 256) (hk : k ≤ 56) (hx : x = 0 ∨ b ≠ 0 ∨ k = 0) :
    (0 : Int) ≤ iconv .u8 (b : Int) ∧ (iconv .u8 (b : Int)).toNat < str1.size ∧ IsLen x (iadd .i64 (k : Int) (iconv .i64 (strAt str1 (iconv .u8 (b : Int)).toNat))) := by
  have hu : iconv .u8 (b : Int) = (b : Int) := by rw [u8_of, Nat.mod_eq_of_lt hlt]
  rw [hu, str1_size, Int.toNat_natCast]
  refine ⟨by omega, hlt, ?_⟩
  obtain ⟨h1, h2, h3, h4⟩ := len_tab b hlt
  generalize iconv .i64 (strAt str1 b) = z at *
  obtain ⟨t, rfl⟩ := Int.eq_ofNat_of_zero_le h2
  rw [Int.toNat_natCast] at h3 h4
  refine ⟨k + t, by unfold iadd; rw [i64_small (by omega) (by omega)]; omega, by omega, ?_, ?_⟩
  · rw [Nat.pow_add, Nat.mul_comm]
    rw [hb] at h3
    exact (Nat.div_lt_iff_lt_mul (Nat.pow_pos (by decide))).1 h3
  · intro h0
    by_cases hz : b = 0
    · rcases hx with h | h | h
      · exact absurd h h0
      · exact absurd hz h
      · subst h; simp at hb; omega
    · have := h4 hz
      rw [Nat.pow_add]
      have h5 : 2 ^ k * b ≤ x := by rw [hb]; exact Nat.mul_div_le x (2 ^ k)
      calc 2 ^ k * 2 ^ t ≤ 2 ^ k * (2 * b) := Nat.mul_le_mul_left _ this
        _ = 2 * (2 ^ k * b) := by rw [Nat.mul_left_comm]
        _ ≤ 2 * x := by omega

theorem ile_nat (a b : Nat) : ile (a : Int) (b : Int) = decide (a ≤ b) := by unfold ile; rw [decide_eq_decide]; omega

theorem len64 {x : Nat} (hx : x < 18446744073709551616) : pre74 (x : Int) ∧ IsLen x (fn74 (x : Int)) := by
  have s32 : ∀ y : Nat, ishr .u64 (y : Int) 32 = ((y / 2 ^ 32 : Nat) : Int) := fun y => ishr_u64 (k := 32) (by decide)
  have s16 : ∀ y : Nat, ishr .u64 (y : Int) 16 = ((y / 2 ^ 16 : Nat) : Int) := fun y => ishr_u64 (k := 16) (by decide)
  have s8 : ∀ y : Nat, ishr .u64 (y : Int) 8 = ((y / 2 ^ 8 : Nat) : Int) := fun y => ishr_u64 (k := 8) (by decide)
  have l32 : ∀ y : Nat, ile 4294967296 (y : Int) = decide (4294967296 ≤ y) := fun y => ile_nat 4294967296 y
  have l16 : ∀ y : Nat, ile 65536 (y : Int) = decide (65536 ≤ y) := fun y => ile_nat 65536 y
  have l8 : ∀ y : Nat, ile 256 (y : Int) = decide (256 ≤ y) := fun y => ile_nat 256 y
  unfold pre74 fn74 tree74 Tr.ok
  simp only [Tr.wp, Tr.val, l32, s32, l16, s16, l8, s8]
  have z32 : (0 : Int) ≤ 32 := by decide
  have z16 : (0 : Int) ≤ 16 := by decide
  have z8 : (0 : Int) ≤ 8 := by decide
  by_cases a1 : 4294967296 ≤ x
  · simp only [decide_eq_true a1, cond_true]
    by_cases a2 : 65536 ≤ x / 2 ^ 32
    · simp only [decide_eq_true a2, cond_true]
      by_cases a3 : 256 ≤ x / 2 ^ 32 / 2 ^ 16
      · simp only [decide_eq_true a3, cond_true]
        have h := len_leaf x (x / 2 ^ 32 / 2 ^ 16 / 2 ^ 8) 56 (by omega) (by omega) (by omega) (by omega)
        exact ⟨⟨z32, z16, z8, h.1, h.2.1, trivial⟩, h.2.2⟩
      · simp only [decide_eq_false a3, cond_false]
        have h := len_leaf x (x / 2 ^ 32 / 2 ^ 16) 48 (by omega) (by omega) (by omega) (by omega)
        exact ⟨⟨z32, z16, h.1, h.2.1, trivial⟩, h.2.2⟩
    · simp only [decide_eq_false a2, cond_false]
      by_cases a3 : 256 ≤ x / 2 ^ 32
      · simp only [decide_eq_true a3, cond_true]
        have h := len_leaf x (x / 2 ^ 32 / 2 ^ 8) 40 (by omega) (by omega) (by omega) (by omega)
        exact ⟨⟨z32, z8, h.1, h.2.1, trivial⟩, h.2.2⟩
      · simp only [decide_eq_false a3, cond_false]
        have h := len_leaf x (x / 2 ^ 32) 32 (by omega) (by omega) (by omega) (by omega)
        exact ⟨⟨z32, h.1, h.2.1, trivial⟩, h.2.2⟩
  · simp only [decide_eq_false a1, cond_false]
    by_cases a2 : 65536 ≤ x
    · simp only [decide_eq_true a2, cond_true]
      by_cases a3 : 256 ≤ x / 2 ^ 16
      · simp only [decide_eq_true a3, cond_true]
        have h := len_leaf x (x / 2 ^ 16 / 2 ^ 8) 24 (by omega) (by omega) (by omega) (by omega)
        exact ⟨⟨z16, z8, h.1, h.2.1, trivial⟩, h.2.2⟩
      · simp only [decide_eq_false a3, cond_false]
        have h := len_leaf x (x / 2 ^ 16) 16 (by omega) (by omega) (by omega) (by omega)
        exact ⟨⟨z16, h.1, h.2.1, trivial⟩, h.2.2⟩
    · simp only [decide_eq_false a2, cond_false]
      by_cases a3 : 256 ≤ x
      · simp only [decide_eq_true a3, cond_true]
        have h := len_leaf x (x / 2 ^ 8) 8 (by omega) (by omega) (by omega) (by omega)
        exact ⟨⟨z8, h.1, h.2.1, trivial⟩, h.2.2⟩
      · simp only [decide_eq_false a3, cond_false]
        have h := len_leaf x x 0 (by simp) (by omega) (by omega) (by omega)
        exact ⟨⟨h.1, h.2.1, trivial⟩, h.2.2⟩

theorem zeros64 {x : Nat} (hx : x < 18446744073709551616) (h0 : x ≠ 0) : pre66 (x : Int) ∧ ∃ s : Nat, fn66 (x : Int) = (s : Int) ∧ s < 64 ∧ 9223372036854775808 ≤ x * 2 ^ s ∧ x * 2 ^ s < 18446744073709551616 := by
  obtain ⟨hp, t, ht, h64, h1, h2⟩ := len64 hx
  refine ⟨⟨hp, trivial⟩, 64 - t, ?_, ?_, ?_, ?_⟩
  · change isub .i64 64 (fn74 (x : Int)) = _
    rw [ht]; unfold isub; rw [i64_small (by omega) (by omega)]; omega
  · have : t ≠ 0 := by intro e; subst e; simp at h1; omega
    omega
  · have h3 := h2 h0
    have e : (18446744073709551616 : Nat) = 2 ^ t * 2 ^ (64 - t) := by rw [← Nat.pow_add, show t + (64 - t) = 64 by omega]
    have : 2 ^ t * 2 ^ (64 - t) ≤ 2 * x * 2 ^ (64 - t) := Nat.mul_le_mul_right _ h3
    rw [← e, Nat.mul_assoc] at this
    omega
  · have e : (18446744073709551616 : Nat) = 2 ^ t * 2 ^ (64 - t) := by rw [← Nat.pow_add, show t + (64 - t) = 64 by omega]
    rw [e]
    exact Nat.mul_lt_mul_of_pos_right h1 (Nat.pow_pos (by decide))

/-! ### One half of the quotient -/
theorem imul_u64 {a b : Nat} (h : a * b < 18446744073709551616) : imul .u64 (a : Int) (b : Int) = ((a * b : Nat) : Int) := by
  unfold imul; rw [wrap_u64, ← Int.natCast_mul]; omega
theorem iadd_u64 {a b : Nat} (h : a + b < 18446744073709551616) : iadd .u64 (a : Int) (b : Int) = ((a + b : Nat) : Int) := by
  unfold iadd; rw [wrap_u64]; omega
theorem isub_u64 {a b : Nat} (h : b ≤ a) (ha : a < 18446744073709551616) : isub .u64 (a : Int) (b : Int) = ((a - b : Nat) : Int) := by
  unfold isub; rw [wrap_u64]; omega
theorem iquo_u64 {a b : Nat} (ha : a < 18446744073709551616) : iquo .u64 (a : Int) (b : Int) = ((a / b : Nat) : Int) := by
  unfold iquo; rw [wrap_u64]
  have : (a : Int).tdiv (b : Int) = ((a / b : Nat) : Int) := by rw [Int.tdiv_eq_ediv_of_nonneg (by omega)]; rfl
  have hle : a / b ≤ a := Nat.div_le_self a b
  rw [this]
  generalize a / b = z at *
  omega
theorem irem_u64 {a b : Nat} : irem .u64 (a : Int) (b : Int) = ((a % b : Nat) : Int) := by
  unfold irem
  rw [Int.tmod_eq_emod_of_nonneg (by omega)]; rfl

/-- What is left behind a half: taken modulo 2^64. -/
theorem left_u64 {u un q y r : Nat} (h : u * 4294967296 + un = q * y + r) (hr : r < 18446744073709551616) :
    isub .u64 (iadd .u64 (imul .u64 (u : Int) 4294967296) (un : Int)) (imul .u64 (q : Int) (y : Int)) = (r : Int) := by
  unfold isub iadd imul
  simp only [wrap_u64]
  have e : (u : Int) * 4294967296 + (un : Int) = (q : Int) * (y : Int) + (r : Int) := by
    rw [← Int.natCast_mul]; omega
  generalize (u : Int) * 4294967296 = P at *
  generalize (q : Int) * (y : Int) = Q at *
  omega

structure Half (y y1 y0 u un q r : Nat) : Prop where
  ey : y = y1 * 4294967296 + y0
  hy0 : y0 < 4294967296
  hy1 : 2147483648 ≤ y1 ∧ y1 < 4294967296
  hu : u < y
  hun : un < 4294967296
  qr : q * y1 + r = u
  qle : q ≤ 4294967297
  lt : u * 4294967296 + un < (q + 1) * y

theorem Half.start {y y1 y0 u un : Nat} (ey : y = y1 * 4294967296 + y0) (h0 : y0 < 4294967296) (h1 : 2147483648 ≤ y1 ∧ y1 < 4294967296) (hu : u < y) (hun : un < 4294967296) : Half y y1 y0 u un (u / y1) (u % y1) := by
  have hp : 0 < y1 := by omega
  have hlt := Nat.lt_div_mul_add (a := u) hp
  refine ⟨ey, h0, h1, hu, hun, Nat.div_add_mod' u y1, ?_, ?_⟩
  · have : u / y1 < 4294967298 := by
      rw [Nat.div_lt_iff_lt_mul hp]; omega
    omega
  · have e1 : u + 1 ≤ (u / y1 + 1) * y1 := by rw [Nat.add_mul, Nat.one_mul]; omega
    have e2 : (u + 1) * 4294967296 ≤ (u / y1 + 1) * y1 * 4294967296 := Nat.mul_le_mul_right _ e1
    have e0 : y1 * 4294967296 ≤ y := by rw [ey]; exact Nat.le_add_right _ _
    have e3 : (u / y1 + 1) * (y1 * 4294967296) ≤ (u / y1 + 1) * y := Nat.mul_le_mul_left (u / y1 + 1) e0
    rw [← Nat.mul_assoc] at e3
    have e4 : u * 4294967296 + un < (u + 1) * 4294967296 := by omega
    exact Nat.lt_of_lt_of_le e4 (Nat.le_trans e2 e3)

theorem Half.big {y y1 y0 u un q r : Nat} (h : Half y y1 y0 u un q r) (hq : 4294967296 ≤ q) : u * 4294967296 + un < q * y := by
  have : (u + 1) * 4294967296 ≤ y * 4294967296 := Nat.mul_le_mul_right _ h.hu
  have h2 : y * 4294967296 ≤ y * q := Nat.mul_le_mul_left _ hq
  have := h.hun
  rw [Nat.mul_comm q y]
  omega

theorem Half.over {y y1 y0 u un q r : Nat} (h : Half y y1 y0 u un q r) (hq : 4294967296 * r + un < q * y0) : u * 4294967296 + un < q * y := by
  rw [h.ey, ← h.qr, Nat.mul_add, Nat.add_mul, ← Nat.mul_assoc]
  omega

theorem Half.next {y y1 y0 u un q r : Nat} (h : Half y y1 y0 u un q r) (hq : u * 4294967296 + un < q * y) (h0 : q ≠ 0) : Half y y1 y0 u un (q - 1) (r + y1) := by
  obtain ⟨p, rfl⟩ := Nat.exists_eq_succ_of_ne_zero h0
  have hqr := h.qr
  have hle := h.qle
  rw [Nat.succ_eq_add_one, Nat.add_mul, Nat.one_mul] at hqr
  refine ⟨h.ey, h.hy0, h.hy1, h.hu, h.hun, ?_, by omega, ?_⟩
  · simp only [Nat.succ_eq_add_one, Nat.add_sub_cancel]; omega
  · simp only [Nat.succ_eq_add_one, Nat.add_sub_cancel]; exact hq

theorem Half.fits {y y1 y0 u un q r : Nat} (h : Half y y1 y0 u un q r) (hq : q * y0 ≤ 4294967296 * r + un) : q * y ≤ u * 4294967296 + un := by
  rw [h.ey, ← h.qr, Nat.mul_add, Nat.add_mul, ← Nat.mul_assoc]
  omega

theorem Half.done {y y1 y0 u un q r : Nat} (h : Half y y1 y0 u un q r) (hq : q ≤ 4294967296) (hr : 4294967296 ≤ r) : q * y ≤ u * 4294967296 + un := by
  refine h.fits ?_
  have h1 : q * y0 ≤ 4294967296 * y0 := Nat.mul_le_mul_right _ hq
  have h2 := h.hy0
  omega

/-- The half's quotient and what is left. -/
theorem Half.ends {y y1 y0 u un q r : Nat} (h : Half y y1 y0 u un q r) (hq : q * y ≤ u * 4294967296 + un) : ∃ z, u * 4294967296 + un = q * y + z ∧ z < y ∧ q < 4294967296 := by
  have hlt := h.lt
  rw [Nat.add_mul, Nat.one_mul] at hlt
  refine ⟨u * 4294967296 + un - q * y, by omega, by omega, ?_⟩
  by_cases hb : q < 4294967296
  · exact hb
  · have := h.big (by omega); omega

theorem bound32 {a b : Nat} (ha : a < 4294967296) (hb : b < 4294967296) : a * b < 18446744073709551616 := by
  have : a * b ≤ 4294967295 * 4294967295 := Nat.mul_le_mul (by omega) (by omega)
  omega

theorem ilt_nat (a b : Nat) : ilt (a : Int) (b : Int) = decide (a < b) := by unfold ilt; rw [decide_eq_decide]; omega

/-- The second half. -/
theorem div_low {x : Int × (Int × Int)} {y y1 y0 u un s qh : Nat} (hs : s < 64) (hqh : qh < 4294967296) (hy : y < 18446744073709551616) (res : Int × Int)
    (hres : ∀ q z : Nat, u * 4294967296 + un = q * y + z → z < y → q < 4294967296 → res = (((qh * 4294967296 + q : Nat) : Int), ((z / 2 ^ s : Nat) : Int))) :
    ∀ (q r : Nat), r < 4294967296 → Half y y1 y0 u un q r → Ends (step54 x) res (step54 x (.h1 (y : Int) (s : Int) (y1 : Int) (y0 : Int) (un : Int) (qh : Int) (r : Int) (u : Int) (q : Int))) := by
  have hs0 : (0 : Int) ≤ (s : Int) := by omega
  have hfin : ∀ (q r : Nat), Half y y1 y0 u un q r → q * y ≤ u * 4294967296 + un →
      Ends (step54 x) res (.need ((0 : Int) ≤ (s : Int)) (.ret (.inr ((iadd .u64 (imul .u64 (qh : Int) 4294967296) (q : Int)), (ishr .u64 (isub .u64 (iadd .u64 (imul .u64 (u : Int) 4294967296) (un : Int)) (imul .u64 (q : Int) (y : Int))) (s : Int)))))) := by
    intro q r h hq
    obtain ⟨z, hz, hzy, hqb⟩ := h.ends hq
    refine .need _ _ hs0 ?_
    have e1 : imul .u64 (qh : Int) 4294967296 = ((qh * 4294967296 : Nat) : Int) := imul_u64 (a := qh) (b := 4294967296) (by omega)
    rw [left_u64 hz (by omega), ishr_u64 hs, e1, iadd_u64 (by omega), ← hres q z hz hzy hqb]
    exact .ret
  intro q
  induction q with
  | zero =>
    intro r hr h
    have c1 : ile 4294967296 ((0 : Nat) : Int) = false := by decide
    have hle : 0 * y0 ≤ 4294967296 * r + un := by omega
    have hun := h.hun
    have e1 : imul .u64 4294967296 (r : Int) = ((4294967296 * r : Nat) : Int) := imul_u64 (a := 4294967296) (b := r) (by omega)
    have c2 : ilt (iadd .u64 (imul .u64 4294967296 (r : Int)) (un : Int)) (imul .u64 ((0 : Nat) : Int) (y0 : Int)) = false := by
      rw [e1, iadd_u64 (by omega), imul_u64 (by omega), ilt_nat]; exact decide_eq_false (by omega)
    simp only [step54, c1, c2]
    exact .yes _ _ (.no _ _ (hfin 0 r h (h.fits hle)))
  | succ p ih =>
    intro r hr h
    have hun := h.hun
    have hy0 := h.hy0
    have hy1 := h.hy1
    have e1 : imul .u64 4294967296 (r : Int) = ((4294967296 * r : Nat) : Int) := imul_u64 (a := 4294967296) (b := r) (by omega)
    have e2 : iadd .u64 (imul .u64 4294967296 (r : Int)) (un : Int) = ((4294967296 * r + un : Nat) : Int) := by rw [e1, iadd_u64 (by omega)]
    have e3 : iadd .u64 (r : Int) (y1 : Int) = ((r + y1 : Nat) : Int) := iadd_u64 (by omega)
    have e4 : isub .u64 ((p + 1 : Nat) : Int) 1 = (p : Int) := by have := isub_u64 (a := p + 1) (b := 1) (by omega) (by have := h.qle; omega); simpa using this
    have c3 : ile 4294967296 ((r + y1 : Nat) : Int) = decide (4294967296 ≤ r + y1) := ile_nat 4294967296 _
    have step : ∀ (hlt : u * 4294967296 + un < (p + 1) * y), Half y y1 y0 u un p (r + y1) := fun hlt => by simpa using h.next hlt (by omega)
    by_cases hb : 4294967296 ≤ p + 1
    · have c1 : ile 4294967296 ((p + 1 : Nat) : Int) = true := by rw [show (4294967296 : Int) = ((4294967296 : Nat) : Int) from rfl, ile_nat]; exact decide_eq_true hb
      have hn := step (h.big hb)
      simp only [step54, c1, e3, e4, c3]
      refine .no _ _ ?_
      by_cases h3 : 4294967296 ≤ r + y1
      · rw [decide_eq_true h3]
        exact .yes _ _ (hfin p _ hn (hn.done (by have := h.qle; omega) h3))
      · rw [decide_eq_false h3]
        exact .no _ _ (.jump _ (ih _ (by omega) hn))
    · have c1 : ile 4294967296 ((p + 1 : Nat) : Int) = false := by rw [show (4294967296 : Int) = ((4294967296 : Nat) : Int) from rfl, ile_nat]; exact decide_eq_false hb
      have e5 : imul .u64 ((p + 1 : Nat) : Int) (y0 : Int) = (((p + 1) * y0 : Nat) : Int) := imul_u64 (bound32 (by omega) hy0)
      by_cases hc : 4294967296 * r + un < (p + 1) * y0
      · have c2 : ilt ((4294967296 * r + un : Nat) : Int) (((p + 1) * y0 : Nat) : Int) = true := by rw [ilt_nat]; exact decide_eq_true hc
        have hn := step (h.over hc)
        simp only [step54, c1, e2, e5, c2, e3, e4, c3]
        refine .yes _ _ (.yes _ _ ?_)
        by_cases h3 : 4294967296 ≤ r + y1
        · rw [decide_eq_true h3]
          exact .yes _ _ (hfin p _ hn (hn.done (by omega) h3))
        · rw [decide_eq_false h3]
          exact .no _ _ (.jump _ (ih _ (by omega) hn))
      · have c2 : ilt ((4294967296 * r + un : Nat) : Int) (((p + 1) * y0 : Nat) : Int) = false := by rw [ilt_nat]; exact decide_eq_false hc
        simp only [step54, c1, e2, e5, c2]
        exact .yes _ _ (.no _ _ (hfin (p + 1) r h (h.fits (by omega))))

/-- The first half. -/
theorem div_high {x : Int × (Int × Int)} {y y1 y0 u un1 un0 s : Nat} (hs : s < 64) (hy : y < 18446744073709551616) (h0 : un0 < 4294967296) (res : Int × Int)
    (hres : ∀ q z : Nat, (u * 4294967296 + un1) * 4294967296 + un0 = q * y + z → z < y → res = ((q : Int), ((z / 2 ^ s : Nat) : Int))) :
    ∀ (q r : Nat), r < 4294967296 → Half y y1 y0 u un1 q r → Ends (step54 x) res (step54 x (.h0 (y : Int) (s : Int) (y1 : Int) (y0 : Int) (u : Int) (un1 : Int) (un0 : Int) (q : Int) (r : Int))) := by
  have hfin : ∀ (q r : Nat), Half y y1 y0 u un1 q r → q * y ≤ u * 4294967296 + un1 →
      Ends (step54 x) res (.need ((y1 : Int) ≠ 0) (.ret (.inl (.h1 (y : Int) (s : Int) (y1 : Int) (y0 : Int) (un0 : Int) (q : Int)
        (isub .u64 (isub .u64 (iadd .u64 (imul .u64 (u : Int) 4294967296) (un1 : Int)) (imul .u64 (q : Int) (y : Int))) (imul .u64 (iquo .u64 (isub .u64 (iadd .u64 (imul .u64 (u : Int) 4294967296) (un1 : Int)) (imul .u64 (q : Int) (y : Int))) (y1 : Int)) (y1 : Int)))
        (isub .u64 (iadd .u64 (imul .u64 (u : Int) 4294967296) (un1 : Int)) (imul .u64 (q : Int) (y : Int)))
        (iquo .u64 (isub .u64 (iadd .u64 (imul .u64 (u : Int) 4294967296) (un1 : Int)) (imul .u64 (q : Int) (y : Int))) (y1 : Int)))))) := by
    intro q r h hq
    obtain ⟨z, hz, hzy, hqb⟩ := h.ends hq
    have hy1 := h.hy1
    refine .need _ _ (by omega) (.jump _ ?_)
    rw [left_u64 hz (by omega), iquo_u64 (by omega)]
    have hm : z / y1 * y1 ≤ z := Nat.div_mul_le_self z y1
    rw [imul_u64 (by omega), isub_u64 hm (by omega)]
    have em : z - z / y1 * y1 = z % y1 := by have := Nat.div_add_mod' z y1; omega
    rw [em]
    refine div_low hs hqb hy res ?_ _ _ (Nat.lt_of_lt_of_le (Nat.mod_lt _ (by omega)) (by omega)) (Half.start h.ey h.hy0 h.hy1 hzy h0)
    intro q2 z2 e hz2 hq2
    refine hres (q * 4294967296 + q2) z2 ?_ hz2
    rw [hz, Nat.add_mul, Nat.add_mul, Nat.add_assoc, Nat.add_assoc, ← e, Nat.mul_right_comm]
  intro q
  induction q with
  | zero =>
    intro r hr h
    have c1 : ile 4294967296 ((0 : Nat) : Int) = false := by decide
    have hle : 0 * y0 ≤ 4294967296 * r + un1 := by omega
    have hun := h.hun
    have e1 : imul .u64 4294967296 (r : Int) = ((4294967296 * r : Nat) : Int) := imul_u64 (a := 4294967296) (b := r) (by omega)
    have c2 : ilt (iadd .u64 (imul .u64 4294967296 (r : Int)) (un1 : Int)) (imul .u64 ((0 : Nat) : Int) (y0 : Int)) = false := by
      rw [e1, iadd_u64 (by omega), imul_u64 (by omega), ilt_nat]; exact decide_eq_false (by omega)
    simp only [step54, c1, c2]
    exact .yes _ _ (.no _ _ (hfin 0 r h (h.fits hle)))
  | succ p ih =>
    intro r hr h
    have hun := h.hun
    have hy0 := h.hy0
    have hy1 := h.hy1
    have e1 : imul .u64 4294967296 (r : Int) = ((4294967296 * r : Nat) : Int) := imul_u64 (a := 4294967296) (b := r) (by omega)
    have e2 : iadd .u64 (imul .u64 4294967296 (r : Int)) (un1 : Int) = ((4294967296 * r + un1 : Nat) : Int) := by rw [e1, iadd_u64 (by omega)]
    have e3 : iadd .u64 (r : Int) (y1 : Int) = ((r + y1 : Nat) : Int) := iadd_u64 (by omega)
    have e4 : isub .u64 ((p + 1 : Nat) : Int) 1 = (p : Int) := by have := isub_u64 (a := p + 1) (b := 1) (by omega) (by have := h.qle; omega); simpa using this
    have c3 : ile 4294967296 ((r + y1 : Nat) : Int) = decide (4294967296 ≤ r + y1) := ile_nat 4294967296 _
    have step : ∀ (hlt : u * 4294967296 + un1 < (p + 1) * y), Half y y1 y0 u un1 p (r + y1) := fun hlt => by simpa using h.next hlt (by omega)
    by_cases hb : 4294967296 ≤ p + 1
    · have c1 : ile 4294967296 ((p + 1 : Nat) : Int) = true := by rw [show (4294967296 : Int) = ((4294967296 : Nat) : Int) from rfl, ile_nat]; exact decide_eq_true hb
      have hn := step (h.big hb)
      simp only [step54, c1, e3, e4, c3]
      refine .no _ _ ?_
      by_cases h3 : 4294967296 ≤ r + y1
      · rw [decide_eq_true h3]
        exact .yes _ _ (hfin p _ hn (hn.done (by have := h.qle; omega) h3))
      · rw [decide_eq_false h3]
        exact .no _ _ (.jump _ (ih _ (by omega) hn))
    · have c1 : ile 4294967296 ((p + 1 : Nat) : Int) = false := by rw [show (4294967296 : Int) = ((4294967296 : Nat) : Int) from rfl, ile_nat]; exact decide_eq_false hb
      have e5 : imul .u64 ((p + 1 : Nat) : Int) (y0 : Int) = (((p + 1) * y0 : Nat) : Int) := imul_u64 (bound32 (by omega) hy0)
      by_cases hc : 4294967296 * r + un1 < (p + 1) * y0
      · have c2 : ilt ((4294967296 * r + un1 : Nat) : Int) (((p + 1) * y0 : Nat) : Int) = true := by rw [ilt_nat]; exact decide_eq_true hc
        have hn := step (h.over hc)
        simp only [step54, c1, e2, e5, c2, e3, e4, c3]
        refine .yes _ _ (.yes _ _ ?_)
        by_cases h3 : 4294967296 ≤ r + y1
        · rw [decide_eq_true h3]
          exact .yes _ _ (hfin p _ hn (hn.done (by omega) h3))
        · rw [decide_eq_false h3]
          exact .no _ _ (.jump _ (ih _ (by omega) hn))
      · have c2 : ilt ((4294967296 * r + un1 : Nat) : Int) (((p + 1) * y0 : Nat) : Int) = false := by rw [ilt_nat]; exact decide_eq_false hc
        simp only [step54, c1, e2, e5, c2]
        exact .yes _ _ (.no _ _ (hfin (p + 1) r h (h.fits (by omega))))

theorem join64 (W L K : Nat) (e : (W * 4294967296 + L / 2 ^ 32) * 4294967296 + L % 2 ^ 32 = K) : W * 18446744073709551616 + L = K := by
  have h := Nat.div_add_mod L (2 ^ 32)
  rw [Nat.add_mul, Nat.mul_assoc] at e
  generalize L / 2 ^ 32 = p at *
  generalize L % 2 ^ 32 = r at *
  have e2 : 4294967296 * 4294967296 = 18446744073709551616 := by decide
  rw [e2] at e
  rw [← e, ← h, Nat.mul_comm p, Nat.add_assoc]

theorem div64_ends {hi lo y : Nat} (hh : hi < y) (hl : lo < 18446744073709551616) (hy : y < 18446744073709551616) :
    Ends (step54 ((hi : Int), ((lo : Int), (y : Int)))) ((((hi * 18446744073709551616 + lo) / y : Nat) : Int), (((hi * 18446744073709551616 + lo) % y : Nat) : Int)) (tree54 ((hi : Int), ((lo : Int), (y : Int)))) := by
  have c0 : ieq (y : Int) 0 = false := by unfold ieq; simp; omega
  have c1 : ile (y : Int) (hi : Int) = false := by rw [ile_nat]; exact decide_eq_false (by omega)
  unfold tree54
  simp only [c0, c1]
  refine .no _ _ (.no _ _ ?_)
  by_cases hz : hi = 0
  · subst hz
    have c2 : ieq ((0 : Nat) : Int) 0 = true := by decide
    simp only [c2]
    refine .yes _ _ (.need _ _ (by omega) (.need _ _ (by omega) ?_))
    rw [iquo_u64 hl, irem_u64, Nat.zero_mul, Nat.zero_add]
    exact .ret
  · have c2 : ieq (hi : Int) 0 = false := by unfold ieq; simp; omega
    obtain ⟨hp, s, es, hs, n1, n2⟩ := zeros64 hy (by omega)
    have e0 : iconv .u64 (fn66 (y : Int)) = (s : Int) := by rw [es]; unfold iconv; rw [wrap_u64]; omega
    have e1 : isub .u64 64 (s : Int) = ((64 - s : Nat) : Int) := isub_u64 (a := 64) (b := s) (by omega) (by decide)
    have e2 : ishl .u64 (y : Int) (s : Int) = ((y * 2 ^ s : Nat) : Int) := by rw [ishl_u64 hs, Nat.mod_eq_of_lt n2]
    have e3 : ∀ z : Nat, ishr .u64 (z : Int) 32 = ((z / 2 ^ 32 : Nat) : Int) := fun z => ishr_u64 (k := 32) (by decide)
    have e4 : ∀ z : Nat, z < 18446744073709551616 → iand .u64 (z : Int) 4294967295 = ((z % 2 ^ 32 : Nat) : Int) := fun z hz => by
      have := iand_u64 (a := z) (b := 4294967295) hz (by decide)
      rw [show ((4294967295 : Nat) : Int) = 4294967295 from rfl] at this
      rw [this, show 4294967295 = 2 ^ 32 - 1 from rfl, Nat.and_two_pow_sub_one_eq_mod]
    have hup : hi * 2 ^ s < y * 2 ^ s := Nat.mul_lt_mul_of_pos_right hh (Nat.pow_pos (by decide))
    have e5 : ishl .u64 (hi : Int) (s : Int) = ((hi * 2 ^ s : Nat) : Int) := by rw [ishl_u64 hs, Nat.mod_eq_of_lt (by omega)]
    have e6 : ishr .u64 (lo : Int) ((64 - s : Nat) : Int) = ((lo / 2 ^ (64 - s) : Nat) : Int) := by
      by_cases h64 : 64 - s < 64
      · exact ishr_u64 h64
      · have e64 : 64 - s = 64 := by omega
        rw [e64]
        have : lo / 2 ^ 64 = 0 := Nat.div_eq_of_lt hl
        rw [this]
        simp only [ishr, IntKind.bits, Int.toNat_natCast]
        rw [show min 64 64 = 64 from rfl, Int.fdiv_eq_ediv_of_nonneg _ (Int.le_of_lt (Int.pow_pos (by decide)))]
        omega
    have e7 : ishl .u64 (lo : Int) (s : Int) = ((lo * 2 ^ s % 18446744073709551616 : Nat) : Int) := ishl_u64 hs
    -- the word on top
    have hlow : lo / 2 ^ (64 - s) < 2 ^ s := by
      rw [Nat.div_lt_iff_lt_mul (Nat.pow_pos (by decide)), ← Nat.pow_add, show s + (64 - s) = 64 by omega]; exact hl
    have htop : hi * 2 ^ s + lo / 2 ^ (64 - s) < y * 2 ^ s := by
      have : (hi + 1) * 2 ^ s ≤ y * 2 ^ s := Nat.mul_le_mul_right _ hh
      rw [Nat.add_mul, Nat.one_mul] at this
      omega
    have hor : hi * 2 ^ s ||| lo / 2 ^ (64 - s) = hi * 2 ^ s + lo / 2 ^ (64 - s) := by
      rw [Nat.mul_comm, Nat.two_pow_add_eq_or_of_lt hlow]
    have e8 : ior .u64 ((hi * 2 ^ s : Nat) : Int) ((lo / 2 ^ (64 - s) : Nat) : Int) = ((hi * 2 ^ s + lo / 2 ^ (64 - s) : Nat) : Int) := by
      rw [ior_u64 (by omega) (by omega), hor]
    have hlo2 : lo * 2 ^ s % 18446744073709551616 = (lo % 2 ^ (64 - s)) * 2 ^ s := by
      have e : (18446744073709551616 : Nat) = 2 ^ (64 - s) * 2 ^ s := by rw [← Nat.pow_add, show 64 - s + s = 64 by omega]
      rw [e, Nat.mul_mod_mul_right]
    have hwhole : (hi * 2 ^ s + lo / 2 ^ (64 - s)) * 18446744073709551616 + lo * 2 ^ s % 18446744073709551616 = (hi * 18446744073709551616 + lo) * 2 ^ s := by
      have e : (18446744073709551616 : Nat) = 2 ^ (64 - s) * 2 ^ s := by rw [← Nat.pow_add, show 64 - s + s = 64 by omega]
      have hd := Nat.div_add_mod lo (2 ^ (64 - s))
      rw [hlo2]
      have : (hi * 18446744073709551616 + lo) * 2 ^ s = hi * 2 ^ s * 18446744073709551616 + (2 ^ (64 - s) * (lo / 2 ^ (64 - s)) + lo % 2 ^ (64 - s)) * 2 ^ s := by
        rw [hd, Nat.add_mul, Nat.mul_right_comm]
      rw [this, Nat.add_mul, Nat.add_mul, e]
      have : lo / 2 ^ (64 - s) * (2 ^ (64 - s) * 2 ^ s) = 2 ^ (64 - s) * (lo / 2 ^ (64 - s)) * 2 ^ s := by
        rw [← Nat.mul_assoc, Nat.mul_comm (lo / 2 ^ (64 - s))]
      rw [this]; omega
    generalize hW : hi * 2 ^ s + lo / 2 ^ (64 - s) = W at *
    generalize hL : lo * 2 ^ s % 18446744073709551616 = L at *
    have hL64 : L < 18446744073709551616 := by rw [← hL]; exact Nat.mod_lt _ (by decide)
    generalize hY : y * 2 ^ s = Y at *
    simp only [c2, e0, e1, e2, e5, e6, e7, e8, e3, e4 Y (by omega), e4 L hL64]
    have hY1 : 2147483648 ≤ Y / 2 ^ 32 ∧ Y / 2 ^ 32 < 4294967296 := by omega
    have eq1 : iquo .u64 (W : Int) ((Y / 2 ^ 32 : Nat) : Int) = ((W / (Y / 2 ^ 32) : Nat) : Int) := iquo_u64 (by omega)
    have hm : W / (Y / 2 ^ 32) * (Y / 2 ^ 32) ≤ W := Nat.div_mul_le_self _ _
    have em : W - W / (Y / 2 ^ 32) * (Y / 2 ^ 32) = W % (Y / 2 ^ 32) := by have := Nat.div_add_mod' W (Y / 2 ^ 32); omega
    have eq2 : isub .u64 (W : Int) (imul .u64 ((W / (Y / 2 ^ 32) : Nat) : Int) ((Y / 2 ^ 32 : Nat) : Int)) = ((W % (Y / 2 ^ 32) : Nat) : Int) := by
      rw [imul_u64 (by omega), isub_u64 hm (by omega), em]
    simp only [eq1, eq2]
    have z32 : (0 : Int) ≤ 32 := by decide
    refine .no _ _ (.need _ _ hp (.need _ _ (by omega) (.need _ _ z32 (.need _ _ (by omega) (.need _ _ (by omega) (.need _ _ (by omega) (.need _ _ z32 (.need _ _ (by omega) (.jump _ ?_)))))))))
    have m1 : W % (Y / 2 ^ 32) < 4294967296 := by
      have : W % (Y / 2 ^ 32) < Y / 2 ^ 32 := Nat.mod_lt _ (by omega)
      omega
    have m2 : L % 2 ^ 32 < 4294967296 := by omega
    have m3 : L / 2 ^ 32 < 4294967296 := by omega
    have m4 : Y = Y / 2 ^ 32 * 4294967296 + Y % 2 ^ 32 := by omega
    have m5 : Y % 2 ^ 32 < 4294967296 := by omega
    refine div_high hs n2 m2 _ ?_ _ _ m1 (Half.start m4 m5 hY1 htop m3)
    intro q z e hz
    have e' : (hi * 18446744073709551616 + lo) * 2 ^ s = q * Y + z := by rw [← hwhole]; exact join64 W L _ e
    have hpos : 0 < 2 ^ s := Nat.pow_pos (by decide)
    rw [← hY] at e' hz
    have hq : (hi * 18446744073709551616 + lo) / y = q := by
      rw [← Nat.mul_div_mul_right _ _ hpos, e', Nat.mul_comm q, Nat.mul_add_div (by omega), Nat.div_eq_of_lt hz]; rfl
    have hr : (hi * 18446744073709551616 + lo) % y = z / 2 ^ s := by
      have h1 : (hi * 18446744073709551616 + lo) * 2 ^ s % (y * 2 ^ s) = z := by
        rw [e', Nat.mul_comm q, Nat.mul_add_mod, Nat.mod_eq_of_lt hz]
      rw [Nat.mul_mod_mul_right] at h1
      rw [← h1, Nat.mul_div_cancel _ hpos]
    rw [hq, hr]

theorem div64 {hi lo y : Nat} (hh : hi < y) (hl : lo < 18446744073709551616) (hy : y < 18446744073709551616) :
    pre54 ((hi : Int), ((lo : Int), (y : Int))) ∧ fn54 ((hi : Int), ((lo : Int), (y : Int))) = ((((hi * 18446744073709551616 + lo) / y : Nat) : Int), (((hi * 18446744073709551616 + lo) % y : Nat) : Int)) :=
  ⟨⟨_, div64_ends hh hl hy⟩, endVal_eq (div64_ends hh hl hy)⟩
end Go.Eng.RA
end
section
/- Plain laws: the document's own functions of chapter 01. -/
namespace Go.Eng.RA
open Go.Eng
set_option maxRecDepth 100000

theorem rwide_ok (n : Int) : pre58 n := trivial
theorem rwide_eq (n : Int) : fn58 n = (wd n : Int) := wide_eq n

theorem rbits (n : Int) : imul .i64 8 (fn58 n) = ((8 * wd n : Nat) : Int) := by
  have h := wd_pos n
  rw [rwide_eq]
  unfold imul; rw [i64_small (by omega) (by omega)]; omega

theorem u64_idx {i : Nat} (h : i < 64) : iconv .u64 (i : Int) = (i : Int) := by unfold iconv; rw [wrap_u64]; omega
theorem next_i64 {i : Nat} (h : i < 9223372036854775807) : iadd .i64 (i : Int) 1 = ((i + 1 : Nat) : Int) := by unfold iadd; rw [i64_small (by omega) (by omega)]; omega

theorem pow_lt64 {i : Nat} (h : i < 64) : 2 ^ i < 18446744073709551616 := Nat.lt_of_lt_of_eq (Nat.pow_lt_pow_right (by decide) h) rfl

theorem one_shl {i : Nat} (h : i < 64) : ishl .u64 1 (i : Int) = ((2 ^ i : Nat) : Int) := by
  have := ishl_u64 (a := 1) h
  rw [Nat.one_mul, Nat.mod_eq_of_lt (pow_lt64 h)] at this
  exact this

theorem or_top {b i : Nat} (hb : b < 2 ^ i) : b ||| 2 ^ i = b + 2 ^ i := by
  have := Nat.two_pow_add_eq_or_of_lt hb 1
  rw [Nat.mul_one] at this
  rw [Nat.or_comm, ← this]; omega

theorem rmask_ends (n : Int) : Ends (step53 n) ((2 ^ (8 * wd n) - 1 : Nat) : Int) (tree53 n) := by
  have hw := wd_pos n
  have go : ∀ (d i : Nat), 8 * wd n = i + d → Ends (step53 n) ((2 ^ (8 * wd n) - 1 : Nat) : Int) (step53 n (.h0 ((2 ^ i - 1 : Nat) : Int) (i : Int))) := by
    intro d
    induction d with
    | zero =>
      intro i hi
      have hc : ilt (i : Int) ((8 * wd n : Nat) : Int) = false := by simp [ilt]; omega
      simp only [step53, rbits, hc]
      refine .need _ _ (rwide_ok n) (.no _ _ ?_)
      rw [show 8 * wd n = i by omega]
      exact .ret
    | succ d ih =>
      intro i hi
      have hc : ilt (i : Int) ((8 * wd n : Nat) : Int) = true := by simp [ilt]; omega
      have hp : 0 < 2 ^ i := Nat.pow_pos (by decide)
      have e : ior .u64 ((2 ^ i - 1 : Nat) : Int) (ishl .u64 1 (i : Int)) = ((2 ^ (i + 1) - 1 : Nat) : Int) := by
        have h64 := pow_lt64 (i := i) (by omega)
        rw [one_shl (by omega), ior_u64 (by omega) h64, or_top (by omega), Nat.pow_succ]
        congr 1; omega
      simp only [step53, rbits, hc, u64_idx (i := i) (by omega), e, next_i64 (i := i) (by omega)]
      exact .need _ _ (rwide_ok n) (.yes _ _ (.need _ _ (by omega) (.jump _ (ih (i + 1) (by omega)))))
  have := go (8 * wd n) 0 (by omega)
  exact .jump _ (by simpa using this)

theorem rmask_ok (n : Int) : pre53 n := ⟨_, rmask_ends n⟩
theorem rmask_eq (n : Int) : fn53 n = ((2 ^ (8 * wd n) - 1 : Nat) : Int) := endVal_eq (rmask_ends n)

theorem rcut_ok (x n : Int) : pre21 (x, n) := ⟨rmask_ok n, trivial⟩
theorem rcut_eq {a : Nat} (ha : a < 18446744073709551616) (n : Int) : fn21 ((a : Int), n) = (cut a n : Int) := by
  change iand .u64 a (fn53 n) = _
  have hm : 2 ^ (8 * wd n) - 1 < 18446744073709551616 := by
    have := pw_le n
    have : 0 < 2 ^ (8 * wd n) := Nat.pow_pos (by decide)
    omega
  rw [rmask_eq, iand_u64 ha hm, Nat.and_two_pow_sub_one_eq_mod]
  rfl

theorem rsign_bits (n : Int) : iconv .u64 (isub .i64 (imul .i64 8 (fn58 n)) 1) = ((8 * wd n - 1 : Nat) : Int) := by
  have h := wd_pos n
  rw [rbits]
  unfold isub iconv
  rw [i64_small (by omega) (by omega), wrap_u64]; omega

theorem rsign_ok (x n : Int) : pre59 (x, n) := by
  refine ⟨rwide_ok n, ?_, trivial⟩
  change (0 : Int) ≤ iconv .u64 (isub .i64 (imul .i64 8 (fn58 n)) 1)
  rw [rsign_bits]; omega

theorem rsign_eq (a : Nat) (n : Int) : fn59 ((a : Int), n) = sg a n := by
  have h := wd_pos n
  change ieq (iand .u64 (ishr .u64 (a : Int) (iconv .u64 (isub .i64 (imul .i64 8 (fn58 n)) 1))) 1) 1 = _
  rw [rsign_bits, ishr_u64 (by omega), low_bit]
  unfold sg ieq
  generalize a / 2 ^ (8 * wd n - 1) = b
  by_cases hb : b % 2 = 1
  · simp [hb]
  · have : b % 2 = 0 := by omega
    simp [this]

theorem rone_ok (c : Bool) : pre57 c := by cases c <;> trivial
theorem rone_eq (c : Bool) : fn57 c = (c.toNat : Int) := by cases c <;> rfl

theorem sg_cut (a : Nat) (n : Int) : sg (cut a n) n = sg a n := by
  have := wd_pos n
  unfold cut
  rw [sg_bit, sg_bit, Nat.testBit_mod_two_pow, decide_eq_true (show 8 * wd n - 1 < 8 * wd n by omega)]; rfl

theorem bit_u64 (x i : Nat) (hi : i < 64) : iand .u64 (ishr .u64 (x : Int) (i : Int)) 1 = ((x / 2 ^ i % 2 : Nat) : Int) := by
  rw [ishr_u64 hi, low_bit]

theorem mod_step (a i : Nat) : a % 2 ^ (i + 1) = a % 2 ^ i + 2 ^ i * (a / 2 ^ i % 2) := by
  rw [Nat.pow_succ, Nat.mod_mul]

theorem radd_ends {a b : Nat} (c : Bool) (n : Int) : Ends (step25 ((a : Int), ((b : Int), (c, n)))) (addF a b c n) (tree25 ((a : Int), ((b : Int), (c, n)))) := by
  have hw := wd_pos n
  have hc1 : c.toNat ≤ 1 := by cases c <;> decide
  have go : ∀ (d i k s : Nat), 8 * wd n = i + d → k ≤ 1 → s < 2 ^ i → a % 2 ^ i + b % 2 ^ i + c.toNat = 2 ^ i * k + s →
      Ends (step25 ((a : Int), ((b : Int), (c, n)))) (addF a b c n) (step25 ((a : Int), ((b : Int), (c, n))) (.h0 (k : Int) (s : Int) (i : Int))) := by
    intro d
    induction d with
    | zero =>
      intro i k s hi hk hs he
      have hc : ilt (i : Int) ((8 * wd n : Nat) : Int) = false := by simp [ilt]; omega
      have hi' : i = 8 * wd n := by omega
      subst hi'
      have hsum : sum a b c n = 2 ^ (8 * wd n) * k + s := he
      have hs' : s = cut (sum a b c n) n := by
        unfold cut; rw [hsum, Nat.mul_add_mod, Nat.mod_eq_of_lt hs]
      have hk' : ieq (k : Int) 1 = decide (2 ^ (8 * wd n) ≤ sum a b c n) := by
        rw [hsum]; unfold ieq
        have : k = 0 ∨ k = 1 := by omega
        rcases this with rfl | rfl
        · simp [hs]
        · simp
      have hov : (addF a b c n).2.2 = (((sg a n == sg b n) == true) && !(sg s n == sg a n)) := by
        change sg ((cut a n ^^^ cut (sum a b c n) n) &&& (cut b n ^^^ cut (sum a b c n) n)) n = _
        rw [sg_bit, Nat.testBit_and, Nat.testBit_xor, Nat.testBit_xor, ← sg_bit, ← sg_bit, ← sg_bit, sg_cut a, sg_cut b, ← hs']
        cases sg a n <;> cases sg b n <;> cases sg s n <;> rfl
      have hres : addF a b c n = ((s : Int), (ieq (k : Int) 1, (((sg a n == sg b n) == true) && !(sg s n == sg a n)))) := by
        rw [← hov, hk', hs']; rfl
      simp only [step25, rbits, hc, rsign_eq]
      refine .need _ _ (rwide_ok n) (.no _ _ (.need _ _ (rsign_ok _ _) (.need _ _ (rsign_ok _ _) ?_)))
      rw [hres]
      cases hq : ((sg a n == sg b n) == true)
      · exact .no _ _ .ret
      · exact .yes _ _ (.need _ _ (rsign_ok _ _) (.need _ _ (rsign_ok _ _) (by rw [Bool.true_and]; exact .ret)))
    | succ d ih =>
      intro i k s hi hk hs he
      have hc : ilt (i : Int) ((8 * wd n : Nat) : Int) = true := by simp [ilt]; omega
      have hp : 0 < 2 ^ i := Nat.pow_pos (by decide)
      have h64 := pow_lt64 (i := i) (by omega)
      have hx : a / 2 ^ i % 2 < 2 := Nat.mod_lt _ (by decide)
      have hy : b / 2 ^ i % 2 < 2 := Nat.mod_lt _ (by decide)
      have he2 : a % 2 ^ (i + 1) + b % 2 ^ (i + 1) + c.toNat = 2 ^ i * (a / 2 ^ i % 2 + b / 2 ^ i % 2 + k) + s := by
        rw [mod_step, mod_step, Nat.mul_add, Nat.mul_add]; omega
      generalize ha' : a / 2 ^ i % 2 = u at *
      generalize hb' : b / 2 ^ i % 2 = v at *
      have e1 : iadd .u64 (iadd .u64 (u : Int) (v : Int)) (k : Int) = ((u + v + k : Nat) : Int) := by
        rw [iadd_u64 (by omega), iadd_u64 (by omega)]
      have e2 : ishr .u64 ((u + v + k : Nat) : Int) 1 = (((u + v + k) / 2 : Nat) : Int) := by
        have := ishr_u64 (a := u + v + k) (k := 1) (by decide); simpa using this
      have hs2 : s + 2 ^ i * ((u + v + k) % 2) < 2 ^ (i + 1) := by
        have h2 : (u + v + k) % 2 < 2 := Nat.mod_lt _ (by decide)
        have : 2 ^ i * ((u + v + k) % 2) ≤ 2 ^ i * 1 := Nat.mul_le_mul_left _ (by omega)
        rw [Nat.pow_succ]; omega
      have hs64 : 2 ^ (i + 1) ≤ 18446744073709551616 := Nat.le_of_lt_add_one (Nat.lt_of_le_of_lt (Nat.pow_le_pow_right (by decide) (show i + 1 ≤ 64 by omega)) (by decide))
      have e3 : ior .u64 (s : Int) (ishl .u64 (((u + v + k) % 2 : Nat) : Int) (i : Int)) = ((s + 2 ^ i * ((u + v + k) % 2) : Nat) : Int) := by
        have h2 : (u + v + k) % 2 < 2 := Nat.mod_lt _ (by decide)
        have hm : (u + v + k) % 2 * 2 ^ i < 18446744073709551616 := by rw [Nat.mul_comm]; omega
        rw [ishl_u64 (by omega), Nat.mod_eq_of_lt hm, ior_u64 (by omega) hm, Nat.mul_comm, Nat.or_comm, ← Nat.two_pow_add_eq_or_of_lt hs]
        congr 1; omega
      have e4 : iand .u64 ((u + v + k : Nat) : Int) 1 = (((u + v + k) % 2 : Nat) : Int) := low_bit _
      simp only [step25, rbits, hc, u64_idx (i := i) (by omega), bit_u64 _ i (by omega), ha', hb', e1, e2, e3, e4, next_i64 (i := i) (by omega)]
      refine .need _ _ (rwide_ok n) (.yes _ _ (.need _ _ (by omega) (.need _ _ (by omega) (.need _ _ (by omega) (.need _ _ (by decide) (.jump _ ?_))))))
      refine ih (i + 1) ((u + v + k) / 2) (s + 2 ^ i * ((u + v + k) % 2)) (by omega) (by omega) hs2 ?_
      rw [he2, Nat.pow_succ]
      have hd := Nat.div_add_mod (u + v + k) 2
      generalize (u + v + k) / 2 = q at *
      generalize (u + v + k) % 2 = r at *
      rw [← hd, Nat.mul_add, Nat.mul_assoc]; omega
  refine .need _ _ (rone_ok c) (.jump _ ?_)
  rw [rone_eq]
  have := go (8 * wd n) 0 c.toNat 0 (by omega) hc1 (by decide) (by simp [Nat.mod_one])
  exact this

theorem radd_ok (a b : Nat) (c : Bool) (n : Int) : pre25 ((a : Int), ((b : Int), (c, n))) := ⟨_, radd_ends c n⟩
theorem radd_eq (a b : Nat) (c : Bool) (n : Int) : fn25 ((a : Int), ((b : Int), (c, n))) = addF a b c n := endVal_eq (radd_ends c n)
end Go.Eng.RA
end
section
/- Plain laws: chapter 13's own functions: flags, rests, products, quotients. -/
namespace Go.Eng.RA
open Go.Eng
set_option maxRecDepth 100000

abbrev Fl := Bool × (Bool × (Bool × (Bool × Bool)))

/-- The plain flags of a result, with a carry and an overflow. -/
def flagsOf (r : Nat) (w : Int) (c o : Bool) : Fl := (c, (decide (cut r w = 0), (sg r w, (o, !par8 (r % 256)))))

theorem ieq_zero (a : Nat) : ieq (a : Int) 0 = decide (a = 0) := by
  unfold ieq
  by_cases h : a = 0
  · subst h; rfl
  · have : ¬ ((a : Int) = 0) := by omega
    simp [h]

theorem logic_eq {r : Nat} (hr : r < 18446744073709551616) (w : Int) : pre34 (w, (r : Int)) ∧ fn34 (w, (r : Int)) = flagsOf r w false false := by
  refine ⟨⟨cut_ok _ _, sign_ok _ _, par_ok r, trivial⟩, ?_⟩
  change (false, (ieq (fn14 ((r : Int), w)) 0, (fn49 ((r : Int), w), (false, fn17 (r : Int))))) = _
  rw [cut_eq hr, sign_eq, par_eq, ieq_zero]
  rfl

theorem told_eq {r : Nat} (hr : r < 18446744073709551616) (w : Int) (c o : Bool) : pre56 (w, ((r : Int), (c, o))) ∧ fn56 (w, ((r : Int), (c, o))) = ((r : Int), flagsOf r w c o) := by
  have h := logic_eq hr w
  refine ⟨⟨h.1, trivial⟩, ?_⟩
  change ((r : Int), (c, ((fn34 (w, (r : Int))).2.1, ((fn34 (w, (r : Int))).2.2.1, (o, (fn34 (w, (r : Int))).2.2.2.2))))) = _
  rw [h.2]
  rfl

/-- The difference, with its flags. -/
def asubF (w : Int) (a b : Nat) (c : Bool) : Int × Fl :=
  let s := subF a b c w
  (s.1, flagsOf (cut (rest a b c w) w) w s.2.1 s.2.2)

theorem asub_eq {a b : Nat} (ha : a < 18446744073709551616) (hb : b < 18446744073709551616) (w : Int) (c : Bool) :
    pre26 (w, ((a : Int), ((b : Int), c))) ∧ fn26 (w, ((a : Int), ((b : Int), c))) = asubF w a b c := by
  have h := sub_eq ha hb c w
  have ht := told_eq (cut_64 (rest a b c w) w) w (subF a b c w).2.1 (subF a b c w).2.2
  constructor
  · refine ⟨h.1, ?_, trivial⟩
    change pre56 (w, fn16 ((a : Int), ((b : Int), (c, w))))
    rw [h.2]; exact ht.1
  · change fn56 (w, fn16 ((a : Int), ((b : Int), (c, w)))) = _
    rw [h.2]; exact ht.2

def aaddF (w : Int) (a b : Nat) (c : Bool) : Int × Fl :=
  let s := addF a b c w
  (s.1, flagsOf (cut (sum a b c w) w) w s.2.1 s.2.2)

/-! ### Products -/
theorem mul64 {a b : Nat} (ha : a < 18446744073709551616) (hb : b < 18446744073709551616) :
    pre55 ((a : Int), (b : Int)) ∧ fn55 ((a : Int), (b : Int)) = (((a * b / 18446744073709551616 : Nat) : Int), ((a * b % 18446744073709551616 : Nat) : Int)) := by
  have z32 : (0 : Int) ≤ 32 := by decide
  refine ⟨⟨z32, z32, z32, z32, z32, trivial⟩, ?_⟩
  have e3 : ∀ z : Nat, ishr .u64 (z : Int) 32 = ((z / 4294967296 : Nat) : Int) := fun z => ishr_u64 (k := 32) (by decide)
  have e4 : ∀ z : Nat, z < 18446744073709551616 → iand .u64 (z : Int) 4294967295 = ((z % 4294967296 : Nat) : Int) := fun z hz => by
    have := iand_u64 (a := z) (b := 4294967295) hz (by decide)
    rw [show ((4294967295 : Nat) : Int) = 4294967295 from rfl] at this
    rw [this, show 4294967295 = 2 ^ 32 - 1 from rfl, Nat.and_two_pow_sub_one_eq_mod]
  change (iadd .u64 (iadd .u64 (imul .u64 (ishr .u64 (a : Int) 32) (ishr .u64 (b : Int) 32)) (ishr .u64 (iadd .u64 (imul .u64 (ishr .u64 (a : Int) 32) (iand .u64 (b : Int) 4294967295)) (ishr .u64 (imul .u64 (iand .u64 (a : Int) 4294967295) (iand .u64 (b : Int) 4294967295)) 32)) 32))
      (ishr .u64 (iadd .u64 (iand .u64 (iadd .u64 (imul .u64 (ishr .u64 (a : Int) 32) (iand .u64 (b : Int) 4294967295)) (ishr .u64 (imul .u64 (iand .u64 (a : Int) 4294967295) (iand .u64 (b : Int) 4294967295)) 32)) 4294967295) (imul .u64 (iand .u64 (a : Int) 4294967295) (ishr .u64 (b : Int) 32))) 32),
      imul .u64 (a : Int) (b : Int)) = _
  rw [e3 a, e3 b, e4 a ha, e4 b hb]
  have a1 : a / 4294967296 < 4294967296 := by omega
  have b1 : b / 4294967296 < 4294967296 := by omega
  have a0 : a % 4294967296 < 4294967296 := Nat.mod_lt _ (by decide)
  have b0 : b % 4294967296 < 4294967296 := Nat.mod_lt _ (by decide)
  have ea : a = a / 4294967296 * 4294967296 + a % 4294967296 := by omega
  have eb : b = b / 4294967296 * 4294967296 + b % 4294967296 := by omega
  have eab : a * b = (a / 4294967296 * (b / 4294967296)) * 18446744073709551616 + (a / 4294967296 * (b % 4294967296)) * 4294967296 + (a % 4294967296 * (b / 4294967296)) * 4294967296 + a % 4294967296 * (b % 4294967296) := by
    conv => lhs; rw [ea, eb]
    generalize a / 4294967296 = p
    generalize b / 4294967296 = q
    generalize a % 4294967296 = r
    generalize b % 4294967296 = s
    have e1 : p * 4294967296 * (q * 4294967296) = p * q * 18446744073709551616 := by rw [Nat.mul_mul_mul_comm]
    have e2 : r * (q * 4294967296) = r * q * 4294967296 := by rw [Nat.mul_assoc]
    have e3 : p * 4294967296 * s = p * s * 4294967296 := by rw [Nat.mul_right_comm]
    rw [Nat.add_mul, Nat.mul_add, Nat.mul_add, e1, e2, e3]; omega
  have m : ∀ p q : Nat, p < 4294967296 → q < 4294967296 → p * q ≤ 18446744065119617025 := fun p q hp hq => by
    have : p * q ≤ 4294967295 * 4294967295 := Nat.mul_le_mul (by omega) (by omega)
    omega
  have m11 := m _ _ a1 b1
  have m10 := m _ _ a1 b0
  have m01 := m _ _ a0 b1
  have m00 := m _ _ a0 b0
  have hfull : imul .u64 (a : Int) (b : Int) = ((a * b % 18446744073709551616 : Nat) : Int) := by
    unfold imul; rw [wrap_u64, ← Int.natCast_mul]; omega
  rw [hfull, imul_u64 (a := a / 4294967296) (b := b / 4294967296) (by omega), imul_u64 (a := a / 4294967296) (b := b % 4294967296) (by omega), imul_u64 (a := a % 4294967296) (b := b % 4294967296) (by omega),
    imul_u64 (a := a % 4294967296) (b := b / 4294967296) (by omega), eab]
  generalize a / 4294967296 * (b / 4294967296) = P11 at *
  generalize a / 4294967296 * (b % 4294967296) = P10 at *
  generalize a % 4294967296 * (b / 4294967296) = P01 at *
  generalize a % 4294967296 * (b % 4294967296) = P00 at *
  rw [e3 P00, iadd_u64 (a := P10) (by omega), e3, e4 _ (by omega), iadd_u64 (a := (P10 + P00 / 4294967296) % 4294967296) (by omega), e3, iadd_u64 (a := P11) (by omega), iadd_u64 (by omega)]
  simp only [Prod.mk.injEq]
  exact ⟨by omega, trivial⟩

/-- Both halves of a product. -/
def lowF (w : Int) (a b : Nat) : Nat := cut a w * cut b w % 2 ^ (8 * wd w)
def highF (w : Int) (a b : Nat) : Nat := cut a w * cut b w / 2 ^ (8 * wd w)

def mulF (w : Int) (a b : Nat) : Int × (Int × Fl) :=
  ((lowF w a b : Int), ((highF w a b : Int), flagsOf (lowF w a b) w (decide (highF w a b ≠ 0)) (decide (highF w a b ≠ 0))))

theorem prod_lt (w : Int) (a b : Nat) : cut a w * cut b w < 2 ^ (8 * wd w) * 2 ^ (8 * wd w) := by
  have ha := cut_lt a w
  have hb := cut_lt b w
  calc cut a w * cut b w ≤ cut a w * 2 ^ (8 * wd w) := Nat.mul_le_mul_left _ (Nat.le_of_lt hb)
    _ < 2 ^ (8 * wd w) * 2 ^ (8 * wd w) := Nat.mul_lt_mul_of_pos_right ha (Nat.pow_pos (by decide))

theorem low_lt (w : Int) (a b : Nat) : lowF w a b < 2 ^ (8 * wd w) := Nat.mod_lt _ (Nat.pow_pos (by decide))
theorem high_lt (w : Int) (a b : Nat) : highF w a b < 2 ^ (8 * wd w) := by
  unfold highF
  rw [Nat.div_lt_iff_lt_mul (Nat.pow_pos (by decide))]; exact prod_lt w a b

theorem ine_zero (a : Nat) : ine (a : Int) 0 = decide (a ≠ 0) := by
  unfold ine
  by_cases h : a = 0
  · subst h; rfl
  · have : ((a : Int) != 0) = true := by simp; omega
    rw [this]; simp [h]

/-- The high half, as the program finds it. -/
theorem high_or {p : Nat} {w : Int} (hw : wd w < 8) (hp : p < 2 ^ (8 * wd w) * 2 ^ (8 * wd w)) :
    ((p / 18446744073709551616 * 2 ^ (64 - 8 * wd w) % 18446744073709551616) ||| (p % 18446744073709551616 / 2 ^ (8 * wd w))) % 2 ^ (8 * wd w) = p / 2 ^ (8 * wd w) := by
  have h1 : p % 18446744073709551616 / 2 ^ (8 * wd w) < 2 ^ (64 - 8 * wd w) := by
    rw [Nat.div_lt_iff_lt_mul (Nat.pow_pos (by decide)), ← Nat.pow_add, show 64 - 8 * wd w + 8 * wd w = 64 by omega]
    exact Nat.mod_lt _ (by decide)
  have h2 : p / 18446744073709551616 * 2 ^ (64 - 8 * wd w) % 18446744073709551616 = 2 ^ (64 - 8 * wd w) * (p / 18446744073709551616 % 2 ^ (8 * wd w)) := by
    have e : (18446744073709551616 : Nat) = 2 ^ (64 - 8 * wd w) * 2 ^ (8 * wd w) := by rw [← Nat.pow_add, show 64 - 8 * wd w + 8 * wd w = 64 by omega]
    rw [Nat.mul_comm (p / 18446744073709551616)]
    conv => lhs; rhs; rw [e]
    rw [Nat.mul_mod_mul_left]
  rw [h2, ← Nat.two_pow_add_eq_or_of_lt h1]
  rcases wd_cases w with h | h | h | h | h | h | h | h <;> rw [h] at hw hp ⊢ <;> simp only [Nat.reduceMul, Nat.reduceSub, Nat.reducePow] at hp ⊢ <;> omega

theorem bits_lt64 (w : Int) : ilt ((8 * wd w : Nat) : Int) 64 = decide (wd w < 8) := by
  unfold ilt; rw [decide_eq_decide]; omega

theorem mul_eq {a b : Nat} (ha : a < 18446744073709551616) (hb : b < 18446744073709551616) (w : Int) :
    pre24 (w, ((a : Int), (b : Int))) ∧ fn24 (w, ((a : Int), (b : Int))) = mulF w a b := by
  have hw := wd_pos w
  have hall : imul .i64 8 (imin (imax w 1) 8) = ((8 * wd w : Nat) : Int) := bits_all w
  have hm := mul64 (cut_64 a w) (cut_64 b w)
  have hp := prod_lt w a b
  have hsub : isub .i64 64 ((8 * wd w : Nat) : Int) = ((64 - 8 * wd w : Nat) : Int) := by unfold isub; rw [i64_small (by omega) (by omega)]; omega
  have hcl : ∀ x : Nat, fn14 (((x % 18446744073709551616 : Nat) : Int), w) = (cut x w : Int) := fun x => by rw [cut_eq (Nat.mod_lt _ (by decide)), mod_64_cut]
  have hlow : cut (cut a w * cut b w) w = lowF w a b := rfl
  have h64 : cut a w * cut b w / 18446744073709551616 < 18446744073709551616 := by
    have h1 := cut_64 a w
    have h2 := cut_64 b w
    rw [Nat.div_lt_iff_lt_mul (by decide)]
    calc cut a w * cut b w ≤ cut a w * 18446744073709551616 := Nat.mul_le_mul_left _ (Nat.le_of_lt h2)
      _ < 18446744073709551616 * 18446744073709551616 := Nat.mul_lt_mul_of_pos_right h1 (by decide)
  have ht := fun c o => told_eq (Nat.lt_of_lt_of_le (low_lt w a b) (pw_le w)) w c o
  unfold pre24 fn24 tree24 Tr.ok
  simp only [hall, cut_eq ha, cut_eq hb, hm.2, bits_lt64, hsub, hcl, hlow, Tr.wp, Tr.val]
  by_cases h8 : wd w < 8
  · rw [decide_eq_true h8]
    simp only [cond_true]
    have e1 : ishl .u64 ((cut a w * cut b w / 18446744073709551616 : Nat) : Int) ((64 - 8 * wd w : Nat) : Int) = ((cut a w * cut b w / 18446744073709551616 * 2 ^ (64 - 8 * wd w) % 18446744073709551616 : Nat) : Int) := ishl_u64 (by omega)
    have e2 : ishr .u64 ((cut a w * cut b w % 18446744073709551616 : Nat) : Int) ((8 * wd w : Nat) : Int) = ((cut a w * cut b w % 18446744073709551616 / 2 ^ (8 * wd w) : Nat) : Int) := ishr_u64 (by omega)
    have l1 : cut a w * cut b w / 18446744073709551616 * 2 ^ (64 - 8 * wd w) % 18446744073709551616 < 18446744073709551616 := Nat.mod_lt _ (by decide)
    have l2 : cut a w * cut b w % 18446744073709551616 / 2 ^ (8 * wd w) < 18446744073709551616 := Nat.lt_of_le_of_lt (Nat.div_le_self _ _) (Nat.mod_lt _ (by decide))
    rw [e1, e2, ior_u64 l1 l2, cut_eq (Nat.or_lt_two_pow (n := 64) l1 l2)]
    have e3 : cut ((cut a w * cut b w / 18446744073709551616 * 2 ^ (64 - 8 * wd w) % 18446744073709551616) ||| (cut a w * cut b w % 18446744073709551616 / 2 ^ (8 * wd w))) w = highF w a b := high_or h8 hp
    rw [e3, ine_zero, (ht _ _).2]
    exact ⟨⟨cut_ok _ _, cut_ok _ _, hm.1, by omega, by omega, cut_ok _ _, cut_ok _ _, (ht _ _).1, trivial⟩, rfl⟩
  · rw [decide_eq_false h8]
    simp only [cond_false]
    have e8 : wd w = 8 := by omega
    have e3 : cut (cut a w * cut b w / 18446744073709551616) w = highF w a b := by
      change cut a w * cut b w / 18446744073709551616 % 2 ^ (8 * wd w) = cut a w * cut b w / 2 ^ (8 * wd w)
      rw [e8]
      exact Nat.mod_eq_of_lt h64
    rw [cut_eq h64, e3, ine_zero, (ht _ _).2]
    exact ⟨⟨cut_ok _ _, cut_ok _ _, hm.1, cut_ok _ _, cut_ok _ _, (ht _ _).1, trivial⟩, rfl⟩

/-! ### Quotients -/
def divF (w : Int) (hi lo d : Nat) : Int × (Int × Bool) :=
  if cut d w = 0 ∨ cut d w ≤ cut hi w then (0, (0, false)) else
    ((((cut hi w * 2 ^ (8 * wd w) + cut lo w) / cut d w : Nat) : Int), ((((cut hi w * 2 ^ (8 * wd w) + cut lo w) % cut d w : Nat) : Int), true))

theorem div_split {w : Int} {h l : Nat} (hw : wd w < 8) (hl : l < 2 ^ (8 * wd w)) :
    h / 2 ^ (64 - 8 * wd w) * 18446744073709551616 + (l ||| (h * 2 ^ (8 * wd w) % 18446744073709551616)) = h * 2 ^ (8 * wd w) + l := by
  have hw1 := wd_pos w
  have e : (18446744073709551616 : Nat) = 2 ^ (64 - 8 * wd w) * 2 ^ (8 * wd w) := by rw [← Nat.pow_add, show 64 - 8 * wd w + 8 * wd w = 64 by omega]
  have h1 : h * 2 ^ (8 * wd w) % 18446744073709551616 = 2 ^ (8 * wd w) * (h % 2 ^ (64 - 8 * wd w)) := by
    conv => lhs; rhs; rw [e]
    rw [Nat.mul_mod_mul_right, Nat.mul_comm]
  rw [h1, Nat.or_comm, ← Nat.two_pow_add_eq_or_of_lt hl]
  rcases wd_cases w with h | h | h | h | h | h | h | h <;> rw [h] at hw hl ⊢ <;> simp only [Nat.reduceMul, Nat.reduceSub, Nat.reducePow] at hl ⊢ <;> omega

theorem div_eq {hi lo d : Nat} (hh : hi < 18446744073709551616) (hl : lo < 18446744073709551616) (hd : d < 18446744073709551616) (w : Int) :
    pre22 (w, ((hi : Int), ((lo : Int), (d : Int)))) ∧ fn22 (w, ((hi : Int), ((lo : Int), (d : Int)))) = divF w hi lo d := by
  have hw := wd_pos w
  have hall : imul .i64 8 (imin (imax w 1) 8) = ((8 * wd w : Nat) : Int) := bits_all w
  have hsub : isub .i64 64 ((8 * wd w : Nat) : Int) = ((64 - 8 * wd w : Nat) : Int) := by unfold isub; rw [i64_small (by omega) (by omega)]; omega
  unfold pre22 fn22 tree22 Tr.ok divF
  simp only [hall, cut_eq hh, cut_eq hl, cut_eq hd, ieq_zero, ile_nat, bits_lt64, hsub, Tr.wp, Tr.val]
  have h1 := cut_lt hi w
  have h2 := cut_lt lo w
  have h3 := cut_lt d w
  have h4 := pw_le w
  by_cases hz : cut d w = 0
  · rw [if_pos (.inl hz), decide_eq_true hz]
    exact ⟨⟨cut_ok _ _, cut_ok _ _, cut_ok _ _, trivial⟩, rfl⟩
  · rw [decide_eq_false hz]
    simp only [show ((false : Bool) == false) = true from rfl, cond_true]
    by_cases hle : cut d w ≤ cut hi w
    · rw [if_pos (.inr hle), decide_eq_true hle]
      exact ⟨⟨cut_ok _ _, cut_ok _ _, cut_ok _ _, trivial⟩, rfl⟩
    · rw [if_neg (by omega), decide_eq_false hle]
      simp only [cond_false]
      by_cases h8 : wd w < 8
      · rw [decide_eq_true h8]
        simp only [cond_true]
        have e1 : ishr .u64 ((cut hi w : Nat) : Int) ((64 - 8 * wd w : Nat) : Int) = ((cut hi w / 2 ^ (64 - 8 * wd w) : Nat) : Int) := ishr_u64 (by omega)
        have e2 : ishl .u64 ((cut hi w : Nat) : Int) ((8 * wd w : Nat) : Int) = ((cut hi w * 2 ^ (8 * wd w) % 18446744073709551616 : Nat) : Int) := ishl_u64 (by omega)
        have l1 : cut hi w * 2 ^ (8 * wd w) % 18446744073709551616 < 18446744073709551616 := Nat.mod_lt _ (by decide)
        have hle2 : cut hi w / 2 ^ (64 - 8 * wd w) ≤ cut hi w := Nat.div_le_self _ _
        rw [e1, e2, ior_u64 (by omega) l1]
        have h64 := div64 (hi := cut hi w / 2 ^ (64 - 8 * wd w)) (lo := cut lo w ||| (cut hi w * 2 ^ (8 * wd w) % 18446744073709551616)) (y := cut d w) (by omega) (Nat.or_lt_two_pow (n := 64) (by omega) l1) (by omega)
        rw [h64.2, div_split h8 h2]
        exact ⟨⟨cut_ok _ _, cut_ok _ _, cut_ok _ _, by omega, by omega, h64.1, trivial⟩, rfl⟩
      · rw [decide_eq_false h8]
        simp only [cond_false]
        have e8 : wd w = 8 := by omega
        have h64 := div64 (hi := cut hi w) (lo := cut lo w) (y := cut d w) (by omega) (by omega) (by omega)
        rw [h64.2, e8]
        exact ⟨⟨cut_ok _ _, cut_ok _ _, cut_ok _ _, h64.1, trivial⟩, rfl⟩

/-! ### The sample that the laws of chapter 13 look at -/
theorem shift_none (was : Fl) : pre30 (16, (4, (3, (32, was)))) ∧ fn30 (16, (4, (3, (32, was)))) = (3, was) := by
  have hc : fn14 (3, 4) = 3 := (cut_eq (a := 3) (by decide) 4).trans (by decide +kernel)
  unfold pre30 fn30 tree30 Tr.ok
  simp only [hc, show ile 8 4 = false by decide, show ieq 16 16 = true by decide, show ieq (iand .i64 (iconv .i64 32) 31) 0 = true by decide, Tr.wp, Tr.val, cond_true, cond_false]
  exact ⟨⟨cut_ok _ _, trivial⟩, trivial⟩

theorem wakes13 : pre23 () ∧ fn23 () = true := by
  have h1 := asub_eq (a := 1) (b := 2) (by decide) (by decide) 1 false
  have h2 := div_eq (hi := 0) (lo := 7) (d := 2) (by decide) (by decide) (by decide) 8
  have h3 := div_eq (hi := 0) (lo := 7) (d := 0) (by decide) (by decide) (by decide) 8
  have h4 := shift_none (false, (false, (false, (true, false))))
  have v1 : fn26 (1, (1, (2, false))) = (255, (true, (false, (true, (false, true))))) := h1.2.trans (by decide +kernel)
  have v2 : fn22 (8, (0, (7, 2))) = (3, (1, true)) := h2.2.trans (by decide +kernel)
  have v3 : fn22 (8, (0, (7, 0))) = (0, (0, false)) := h3.2.trans (by decide +kernel)
  unfold pre23 fn23 tree23 Tr.ok
  simp only [v1, v2, v3, h4.2, Tr.wp, Tr.val]
  exact ⟨⟨h1.1, h2.1, h3.1, h4.1, trivial⟩, rfl⟩
end Go.Eng.RA
end
section
/- The plain laws of AluBack and AluCompares. -/
namespace Go.Eng.RA
open Go.Eng
set_option maxRecDepth 100000

theorem inot_mask (w : Int) : inot .u64 ((2 ^ (8 * wd w) - 1 : Nat) : Int) = ((18446744073709551616 - 2 ^ (8 * wd w) : Nat) : Int) := by
  rcases wd_cases w with h | h | h | h | h | h | h | h <;> rw [h] <;> decide +kernel

theorem rext_eq {a : Nat} (ha : a < 18446744073709551616) (w : Int) : pre29 ((a : Int), w) ∧ fn29 ((a : Int), w) = (ext a w : Int) := by
  have hw := wd_pos w
  have hc := cut_lt a w
  have hp := pw_le w
  unfold pre29 fn29 tree29 Tr.ok
  simp only [rcut_eq ha, rsign_eq, sg_cut, rmask_eq, inot_mask, Tr.wp, Tr.val]
  unfold ext
  cases hs : sg a w with
  | false => exact ⟨⟨rcut_ok _ _, rsign_ok _ _, trivial⟩, rfl⟩
  | true =>
    refine ⟨⟨rcut_ok _ _, rsign_ok _ _, rmask_ok _, trivial⟩, ?_⟩
    simp only [cond_true, if_true]
    have e : 18446744073709551616 - 2 ^ (8 * wd w) = 2 ^ (8 * wd w) * (2 ^ (64 - 8 * wd w) - 1) := by
      rw [Nat.mul_sub, ← Nat.pow_add, show 8 * wd w + (64 - 8 * wd w) = 64 by omega, Nat.mul_one]
    have hpos : 0 < 2 ^ (8 * wd w) := Nat.pow_pos (by decide)
    rw [ior_u64 (by omega) (by omega), e, Nat.or_comm, ← Nat.two_pow_add_eq_or_of_lt hc]
    congr 1; omega

theorem aadd_eq {a b : Nat} (ha : a < 18446744073709551616) (hb : b < 18446744073709551616) (w : Int) (c : Bool) :
    pre27 (w, ((a : Int), ((b : Int), c))) ∧ fn27 (w, ((a : Int), ((b : Int), c))) = aaddF w a b c := by
  have h := add_eq ha hb c w
  have ht := told_eq (cut_64 (sum a b c w) w) w (addF a b c w).2.1 (addF a b c w).2.2
  constructor
  · refine ⟨h.1, ?_, trivial⟩
    change pre56 (w, fn15 ((a : Int), ((b : Int), (c, w))))
    rw [h.2]; exact ht.1
  · change fn56 (w, fn15 ((a : Int), ((b : Int), (c, w)))) = _
    rw [h.2]; exact ht.2

theorem aneg_eq {a : Nat} (ha : a < 18446744073709551616) (w : Int) : pre28 (w, (a : Int)) ∧ fn28 (w, (a : Int)) = asubF w 0 a false := by
  have h := asub_eq (a := 0) (b := a) (by decide) ha w false
  exact ⟨⟨h.1, trivial⟩, h.2⟩

theorem carry_sum {P hi lo r H L : Nat} (hlo : lo < P) (hr : r < P) (hL : L < P) (h : hi * P + lo + r = H * P + L) :
    (lo + r) % P = L ∧ hi + (decide (P ≤ lo + r)).toNat = H := by
  have hP : 0 < P := by omega
  have e1 : (H * P + L) % P = L := by rw [Nat.mul_comm, Nat.mul_add_mod, Nat.mod_eq_of_lt hL]
  have e2 : (H * P + L) / P = H := by rw [Nat.mul_comm, Nat.mul_add_div hP, Nat.div_eq_of_lt hL]; rfl
  rw [← h, Nat.add_assoc] at e1 e2
  rw [Nat.mul_comm, Nat.mul_add_mod] at e1
  rw [Nat.mul_comm, Nat.mul_add_div hP] at e2
  refine ⟨e1, ?_⟩
  rw [← e2]
  by_cases hc : P ≤ lo + r
  · rw [decide_eq_true hc]
    have : (lo + r) / P = 1 := by rw [Nat.div_eq_iff hP]; omega
    rw [this]; rfl
  · rw [decide_eq_false hc, Nat.div_eq_of_lt (by omega)]; rfl

theorem eqt (b : Bool) : (b == true) = b := by cases b <;> rfl
theorem ieq_self (z : Int) : ieq z z = true := by simp [ieq]

theorem aluBack (x0 x1 x2 x3 : Int) (w1 : (Lit.int .u64 x1).wf = true) (w2 : (Lit.int .u64 x2).wf = true) (w3 : (Lit.int .u64 x3).wf = true) :
    pre7 (x0, (x1, (x2, x3))) ∧ fn7 (x0, (x1, (x2, x3))) = true := by
  obtain ⟨hi, rfl, hh⟩ := u64_nat w1
  obtain ⟨lo, rfl, hl⟩ := u64_nat w2
  obtain ⟨d, rfl, hd⟩ := u64_nat w3
  have hwk := wakes13
  have hdv := div_eq hh hl hd x0
  have h4 := pw_le x0
  unfold pre7 fn7 tree7 Tr.ok
  simp only [rcut_eq hh, rcut_eq hl, rcut_eq hd, hdv.2, ine_zero, ilt_nat, Tr.wp, Tr.val]
  unfold divF
  have cH := cut_lt hi x0
  have cL := cut_lt lo x0
  have cC := cut_lt d x0
  by_cases hz : cut d x0 = 0
  · rw [if_pos (.inl hz)]
    simp only [hz, ne_eq, not_true, decide_false, show ((false : Bool) == true) = false from rfl, cond_false]
    exact ⟨⟨rcut_ok _ _, rcut_ok _ _, rcut_ok _ _, hdv.1, hwk.1, trivial⟩, hwk.2⟩
  · have dz : decide (cut d x0 ≠ 0) = true := decide_eq_true hz
    by_cases hle : cut d x0 ≤ cut hi x0
    · rw [if_pos (.inr hle), dz]
      have : decide (cut hi x0 < cut d x0) = false := decide_eq_false (by omega)
      simp only [this]
      exact ⟨⟨rcut_ok _ _, rcut_ok _ _, rcut_ok _ _, hdv.1, hwk.1, trivial⟩, hwk.2⟩
    · rw [if_neg (by omega), dz]
      have hlt : decide (cut hi x0 < cut d x0) = true := decide_eq_true (by omega)
      have hC : 0 < cut d x0 := by omega
      have hr : (cut hi x0 * 2 ^ (8 * wd x0) + cut lo x0) % cut d x0 < cut d x0 := Nat.mod_lt _ hC
      have hq : (cut hi x0 * 2 ^ (8 * wd x0) + cut lo x0) / cut d x0 < 2 ^ (8 * wd x0) := by
        rw [Nat.div_lt_iff_lt_mul hC, Nat.mul_comm (2 ^ (8 * wd x0))]
        have : (cut hi x0 + 1) * 2 ^ (8 * wd x0) ≤ cut d x0 * 2 ^ (8 * wd x0) := Nat.mul_le_mul_right _ (by omega)
        rw [Nat.add_mul, Nat.one_mul] at this
        omega
      have hqr := Nat.div_add_mod' (cut hi x0 * 2 ^ (8 * wd x0) + cut lo x0) (cut d x0)
      generalize (cut hi x0 * 2 ^ (8 * wd x0) + cut lo x0) / cut d x0 = q at *
      generalize (cut hi x0 * 2 ^ (8 * wd x0) + cut lo x0) % cut d x0 = r at *
      have hm := mul_eq (a := q) (b := cut d x0) (by omega) (by omega) x0
      have ecq : cut q x0 = q := cut_small hq
      have ecC : cut (cut d x0) x0 = cut d x0 := cut_small cC
      have elow : lowF x0 q (cut d x0) = q * cut d x0 % 2 ^ (8 * wd x0) := by unfold lowF; rw [ecq, ecC]
      have ehigh : highF x0 q (cut d x0) = q * cut d x0 / 2 ^ (8 * wd x0) := by unfold highF; rw [ecq, ecC]
      have llt := low_lt x0 q (cut d x0)
      have hlt2 := high_lt x0 q (cut d x0)
      have hsplit : highF x0 q (cut d x0) * 2 ^ (8 * wd x0) + lowF x0 q (cut d x0) = q * cut d x0 := by
        rw [elow, ehigh]; exact Nat.div_add_mod' _ _
      generalize hLo : lowF x0 q (cut d x0) = low at *
      generalize hHi : highF x0 q (cut d x0) = high at *
      have hcs := carry_sum (P := 2 ^ (8 * wd x0)) (hi := high) (lo := low) (r := r) (H := cut hi x0) (L := cut lo x0) llt (by omega) cL (by omega)
      have ra := radd_eq low r false x0
      have rk := radd_ok low r false x0
      have e1 : (addF low r false x0).1 = ((cut lo x0 : Nat) : Int) := by
        change ((cut (cut low x0 + cut r x0 + 0) x0 : Nat) : Int) = _
        rw [cut_small llt, cut_small (show r < 2 ^ (8 * wd x0) by omega), Nat.add_zero]
        exact congrArg _ hcs.1
      have e2 : (addF low r false x0).2.1 = decide (2 ^ (8 * wd x0) ≤ low + r) := by
        change decide (2 ^ (8 * wd x0) ≤ cut low x0 + cut r x0 + 0) = _
        rw [cut_small llt, cut_small (show r < 2 ^ (8 * wd x0) by omega), Nat.add_zero]
      have ra2 := radd_eq high 0 (decide (2 ^ (8 * wd x0) ≤ low + r)) x0
      have rk2 := radd_ok high 0 (decide (2 ^ (8 * wd x0) ≤ low + r)) x0
      have ec0 : cut 0 x0 = 0 := cut_small (Nat.pow_pos (by decide))
      have hsum : sum high 0 (decide (2 ^ (8 * wd x0) ≤ low + r)) x0 = cut hi x0 := by
        unfold sum; rw [cut_small hlt2, ec0, Nat.add_zero]; exact hcs.2
      have e3 : (addF high 0 (decide (2 ^ (8 * wd x0) ≤ low + r)) x0).1 = ((cut hi x0 : Nat) : Int) := by
        change ((cut (sum high 0 _ x0) x0 : Nat) : Int) = _
        rw [hsum, cut_small cH]
      have e4 : (addF high 0 (decide (2 ^ (8 * wd x0) ≤ low + r)) x0).2.1 = false := by
        change decide (2 ^ (8 * wd x0) ≤ sum high 0 _ x0) = false
        rw [hsum]; exact decide_eq_false (by omega)
      have em1 : (mulF x0 q (cut d x0)).1 = (low : Int) := by unfold mulF; rw [hLo]
      have em2 : (mulF x0 q (cut d x0)).2.1 = (high : Int) := by unfold mulF; rw [hHi]
      have k0 : ((0 : Nat) : Int) = 0 := rfl
      rw [k0] at ra2 rk2
      have hrc : decide (r < cut d x0) = true := decide_eq_true hr
      simp only [hlt, hm.2, em1, em2, ra, e1, e2, ra2, e3, e4, ilt_nat, hrc, rcut_eq (show q < 18446744073709551616 by omega), ecq, ieq_self]
      exact ⟨⟨rcut_ok _ _, rcut_ok _ _, rcut_ok _ _, hdv.1, hm.1, rk, rk2, rcut_ok _ _, hwk.1, trivial⟩, hwk.2⟩

theorem sval8 (a : Nat) (w : Int) (T : Nat) (hT : 2 ^ (8 * wd w - 1) = T) :
    iconv .i64 ((ext a w : Nat) : Int) = if cut a w < T then (cut a w : Int) else (cut a w : Int) - 2 * T := by
  subst hT
  unfold ext sg cut iconv
  rw [wrap_i64]
  rcases wd_cases w with h | h | h | h | h | h | h | h <;> rw [h] <;> simp only [Nat.reduceMul, Nat.reduceSub, Nat.reducePow, decide_eq_true_eq] <;> split <;> split <;> omega

theorem rest_mod (a b : Nat) (c : Bool) (w : Int) : cut (rest a b c w) w = (cut a w + 2 * 2 ^ (8 * wd w) - cut b w - c.toNat) % 2 ^ (8 * wd w) := by
  have hA := cut_lt a w
  have hB := cut_lt b w
  have hc : c.toNat ≤ 1 := by cases c <;> decide
  unfold rest
  rw [mod_64_cut]
  generalize cut a w = A at *
  generalize cut b w = B at *
  generalize c.toNat = k at *
  unfold cut
  rcases wd_cases w with h | h | h | h | h | h | h | h <;> rw [h] at hA hB ⊢ <;> simp only [Nat.reduceMul, Nat.reducePow] at hA hB ⊢ <;> omega

theorem sub_mod {A B P : Nat} (hA : A < P) (hB : B < P) : (A + 2 * P - B - 0) % P = if B ≤ A then A - B else A + P - B := by
  split
  · rw [show A + 2 * P - B - 0 = A - B + P + P by omega, Nat.add_mod_right, Nat.add_mod_right, Nat.mod_eq_of_lt (by omega)]
  · rw [show A + 2 * P - B - 0 = A + P - B + P by omega, Nat.add_mod_right, Nat.mod_eq_of_lt (by omega)]

theorem less_flags (A B T : Nat) (hA : A < 2 * T) (hB : B < 2 * T) :
    (!(decide (T ≤ (if B ≤ A then A - B else A + 2 * T - B)) == ((decide (T ≤ A) ^^ decide (T ≤ B)) && (decide (T ≤ A) ^^ decide (T ≤ (if B ≤ A then A - B else A + 2 * T - B)))))) =
      decide ((if A < T then (A : Int) else (A : Int) - 2 * T) < (if B < T then (B : Int) else (B : Int) - 2 * T)) := by
  have hx : ∀ p q : Bool, (!(p == q)) = (p ^^ q) := fun p q => by cases p <;> cases q <;> rfl
  rw [hx]
  by_cases h1 : A < T <;> by_cases h2 : B < T <;> by_cases h3 : B ≤ A <;> simp only [h1, h2, h3, if_true, if_false]
  all_goals
    first
    | rw [decide_eq_true (show T ≤ A by omega)]
    | rw [decide_eq_false (show ¬ T ≤ A by omega)]
  all_goals
    first
    | rw [decide_eq_true (show T ≤ B by omega)]
    | rw [decide_eq_false (show ¬ T ≤ B by omega)]
  all_goals
    simp only [Bool.xor_self, Bool.false_and, Bool.xor_false, Bool.true_xor, Bool.false_xor, Bool.true_and, Bool.xor_true]
  all_goals
    first
    | (rw [decide_eq_decide]; omega)
    | (rw [← decide_not, decide_eq_decide]; omega)
    | (rw [Bool.eq_iff_iff]; simp only [Bool.xor_not_self, decide_eq_true_eq, true_iff]; omega)
    | (rw [Bool.eq_iff_iff]; simp; omega)

theorem aluCompares (x0 x1 x2 : Int) (w1 : (Lit.int .u64 x1).wf = true) (w2 : (Lit.int .u64 x2).wf = true) :
    pre8 (x0, (x1, x2)) ∧ fn8 (x0, (x1, x2)) = true := by
  obtain ⟨a, rfl, ha⟩ := u64_nat w1
  obtain ⟨b, rfl, hb⟩ := u64_nat w2
  have hwk := wakes13
  have hw := wd_pos x0
  have hsub := asub_eq ha hb x0 false
  have hadd := aadd_eq ha hb x0 false
  have hbk := back_sum a b false x0
  have hback := asub_eq (a := cut (sum a b false x0) x0) (b := b) (cut_64 _ _) hb x0 false
  have hneg := aneg_eq ha x0
  have hzero := aadd_eq (a := a) (b := cut (rest 0 a false x0) x0) ha (cut_64 _ _) x0 false
  have hea := rext_eq ha x0
  have heb := rext_eq hb x0
  have hA := cut_lt a x0
  have hB := cut_lt b x0
  obtain ⟨T, hT⟩ : ∃ T, 2 ^ (8 * wd x0 - 1) = T := ⟨_, rfl⟩
  have e2T : 2 ^ (8 * wd x0) = 2 * T := by rw [← hT, ← Nat.pow_succ']; congr 1; omega
  have hsa := sval8 a x0 T hT
  have hsb := sval8 b x0 T hT
  have er : cut (rest a b false x0) x0 = if cut b x0 ≤ cut a x0 then cut a x0 - cut b x0 else cut a x0 + 2 * T - cut b x0 := by
    rw [rest_mod, Bool.toNat_false, sub_mod hA hB, e2T]
  have f1 : (asubF x0 a b false).2.1 = decide (cut a x0 < cut b x0) := by
    change decide (cut a x0 < cut b x0 + 0) = _; rw [Nat.add_zero]
  have f2 : (asubF x0 a b false).2.2.1 = decide (cut a x0 = cut b x0) := by
    change decide (cut (cut (rest a b false x0) x0) x0 = 0) = _
    rw [cut_small (cut_lt _ _), er, decide_eq_decide]
    split <;> omega
  have f3 : (!((asubF x0 a b false).2.2.2.1 == (asubF x0 a b false).2.2.2.2.1)) = decide ((if cut a x0 < T then (cut a x0 : Int) else (cut a x0 : Int) - 2 * T) < (if cut b x0 < T then (cut b x0 : Int) else (cut b x0 : Int) - 2 * T)) := by
    rw [← less_flags _ _ T (by omega) (by omega)]
    change (!(sg (cut (rest a b false x0) x0) x0 == sg ((cut a x0 ^^^ cut b x0) &&& (cut a x0 ^^^ cut (rest a b false x0) x0)) x0)) = _
    rw [sg_bit ((cut a x0 ^^^ cut b x0) &&& _), Nat.testBit_and, Nat.testBit_xor, Nat.testBit_xor, ← sg_bit, ← sg_bit, ← sg_bit, sg_top _ x0 T hT (cut_lt _ _), sg_top _ x0 T hT (cut_lt _ _), sg_top _ x0 T hT (cut_lt _ _), er]
  have f4 : (asubF x0 (cut (sum a b false x0) x0) b false).1 = ((cut a x0 : Nat) : Int) := by
    change ((cut (rest (cut (sum a b false x0) x0) b false x0) x0 : Nat) : Int) = _
    rw [hbk.1]
  have f5 : (aaddF x0 a (cut (rest 0 a false x0) x0) false).1 = 0 := by
    change ((cut (cut a x0 + cut (cut (rest 0 a false x0) x0) x0 + 0) x0 : Nat) : Int) = 0
    have ec0 : cut 0 x0 = 0 := cut_small (Nat.pow_pos (by decide))
    rw [cut_small (cut_lt (rest 0 a false x0) x0), rest_mod, ec0, Bool.toNat_false, sub_mod (Nat.pow_pos (by decide)) hA]
    unfold cut at *
    generalize a % 2 ^ (8 * wd x0) = A at *
    have : (A + (if A ≤ 0 then 0 - A else 0 + 2 ^ (8 * wd x0) - A) + 0) % 2 ^ (8 * wd x0) = 0 := by
      split
      · have : A = 0 := by omega
        subst this; simp
      · rw [show A + (0 + 2 ^ (8 * wd x0) - A) + 0 = 2 ^ (8 * wd x0) by omega, Nat.mod_self]
    rw [this]; rfl
  have f6 : (asubF x0 0 a false).2.1 = decide (cut a x0 ≠ 0) := by
    change decide (cut 0 x0 < cut a x0 + 0) = _
    have ec0 : cut 0 x0 = 0 := cut_small (Nat.pow_pos (by decide))
    rw [ec0, decide_eq_decide]; omega
  have hs1 : fn26 (x0, ((aaddF x0 a b false).1, ((b : Int), false))) = asubF x0 (cut (sum a b false x0) x0) b false := hback.2
  have hs2 : fn27 (x0, ((a : Int), ((asubF x0 0 a false).1, false))) = aaddF x0 a (cut (rest 0 a false x0) x0) false := hzero.2
  have lt_i : ilt (if cut a x0 < T then (cut a x0 : Int) else (cut a x0 : Int) - 2 * T) (if cut b x0 < T then (cut b x0 : Int) else (cut b x0 : Int) - 2 * T) = decide ((if cut a x0 < T then (cut a x0 : Int) else (cut a x0 : Int) - 2 * T) < (if cut b x0 < T then (cut b x0 : Int) else (cut b x0 : Int) - 2 * T)) := rfl
  have eq_n : ieq (cut a x0 : Int) (cut b x0 : Int) = decide (cut a x0 = cut b x0) := by
    unfold ieq
    by_cases h : cut a x0 = cut b x0
    · rw [h]; simp
    · have : ¬ ((cut a x0 : Int) = (cut b x0 : Int)) := by omega
      simp [h, this]
  unfold pre8 fn8 tree8 Tr.ok
  simp only [rcut_eq ha, rcut_eq hb, hsub.2, hadd.2, hneg.2, hs1, hs2, hea.2, heb.2, f1, f2, f3, f4, f5, f6, hsa, hsb, ilt_nat, lt_i, eq_n, ine_zero, ieq_self, Tr.wp, Tr.val, eqt, beq_self_eq_true, cond_true]
  exact ⟨⟨rcut_ok _ _, rcut_ok _ _, hsub.1, hadd.1, hback.1, hneg.1, hzero.1, hea.1, heb.1, hwk.1, trivial⟩, hwk.2⟩
end Go.Eng.RA
end
section
/- The plain law of AluSigned; products with signs. -/
namespace Go.Eng.RA
open Go.Eng
set_option maxRecDepth 100000

/-- A word's value with its sign. -/
def sx (a : Nat) (w : Int) : Int := if cut a w < 2 ^ (8 * wd w - 1) then (cut a w : Int) else (cut a w : Int) - 2 * ((2 ^ (8 * wd w - 1) : Nat) : Int)

theorem sx_eq (a : Nat) (w : Int) : iconv .i64 ((ext a w : Nat) : Int) = sx a w := sval8 a w _ rfl

theorem sx_64 (a : Nat) (w : Int) : sx a w = if ext a w < 9223372036854775808 then (ext a w : Int) else (ext a w : Int) - 18446744073709551616 := by
  have h := ext_64 a w
  rw [← sx_eq]
  unfold iconv
  rw [wrap_i64]
  split <;> omega

theorem sx_rng (a : Nat) (w : Int) : (sx a w).natAbs ≤ 2 ^ (8 * wd w - 1) := by
  have h := cut_lt a w
  have hw := wd_pos w
  have e2T : 2 ^ (8 * wd w) = 2 * 2 ^ (8 * wd w - 1) := by rw [← Nat.pow_succ']; congr 1; omega
  unfold sx
  generalize 2 ^ (8 * wd w - 1) = T at *
  split <;> omega

theorem sx_prod (a b : Nat) (w : Int) : (sx a w * sx b w).natAbs ≤ 2 ^ (8 * wd w - 1) * 2 ^ (8 * wd w - 1) := by
  rw [Int.natAbs_mul]; exact Nat.mul_le_mul (sx_rng a w) (sx_rng b w)

theorem half_le (w : Int) : 2 ^ (8 * wd w - 1) ≤ 9223372036854775808 := by
  rcases wd_cases w with h | h | h | h | h | h | h | h <;> rw [h] <;> decide

theorem sx_126 (a b : Nat) (w : Int) : (sx a w * sx b w).natAbs ≤ 85070591730234615865843651857942052864 := by
  have h := sx_prod a b w
  have : 2 ^ (8 * wd w - 1) * 2 ^ (8 * wd w - 1) ≤ 9223372036854775808 * 9223372036854775808 := Nat.mul_le_mul (half_le w) (half_le w)
  omega

theorem cut_ext (a : Nat) (w : Int) : cut (ext a w) w = cut a w := by
  unfold ext sg cut
  rcases wd_cases w with h | h | h | h | h | h | h | h <;> rw [h] <;> simp only [Nat.reduceMul, Nat.reduceSub, Nat.reducePow, decide_eq_true_eq] <;> split <;> omega

theorem ext_same (l : Nat) (hl : l < 18446744073709551616) (w : Int) : (ext l w = l) ↔ (l < 2 ^ (8 * wd w - 1) ∨ 18446744073709551616 - 2 ^ (8 * wd w - 1) ≤ l) := by
  unfold ext sg cut
  rcases wd_cases w with h | h | h | h | h | h | h | h <;> rw [h] <;> simp only [Nat.reduceMul, Nat.reduceSub, Nat.reducePow, decide_eq_true_eq] <;> split <;> omega

/-- Does the product with signs not fit? -/
def overS (w : Int) (a b : Nat) : Bool := !(decide (-((2 ^ (8 * wd w - 1) : Nat) : Int) ≤ sx a w * sx b w) && decide (sx a w * sx b w < ((2 ^ (8 * wd w - 1) : Nat) : Int)))

def imulF (w : Int) (a b : Nat) : Int × Fl :=
  ((cut (ext a w * ext b w) w : Int), flagsOf (cut (ext a w * ext b w) w) w (overS w a b) (overS w a b))

theorem over_of {m hi' T : Nat} {Pd : Int} (hT : T ≤ 9223372036854775808) (hh : hi' < 18446744073709551616) (hb : Pd.natAbs ≤ 85070591730234615865843651857942052864)
    (hk : ∃ k : Int, Pd = (hi' : Int) * 18446744073709551616 + ((m % 18446744073709551616 : Nat) : Int) + 340282366920938463463374607431768211456 * k) :
    ((m % 18446744073709551616 < T ∨ 18446744073709551616 - T ≤ m % 18446744073709551616) ∧ hi' = (if m % 18446744073709551616 < 9223372036854775808 then 0 else 18446744073709551615)) ↔ (-(T : Int) ≤ Pd ∧ Pd < (T : Int)) := by
  obtain ⟨k, hk⟩ := hk
  have hl : m % 18446744073709551616 < 18446744073709551616 := Nat.mod_lt _ (by decide)
  generalize m % 18446744073709551616 = l at *
  constructor
  · rintro ⟨h1, h2⟩
    split at h2 <;> omega
  · intro h
    split <;> omega

theorem sign_word {l : Nat} (hl : l < 18446744073709551616) : iconv .u64 (ishr .i64 (iconv .i64 (l : Int)) 63) = ((if l < 9223372036854775808 then 0 else 18446744073709551615 : Nat) : Int) := by
  have e : iconv .i64 (l : Int) = if l < 9223372036854775808 then (l : Int) else (l : Int) - 18446744073709551616 := by
    unfold iconv; rw [wrap_i64]; split <;> omega
  have h63 : ∀ x : Int, ishr .i64 x 63 = x / 2 ^ 63 := fun x => ishr_i64 (x := x) (k := 63) (by decide)
  rw [e, h63]
  unfold iconv
  rw [wrap_u64]
  split <;> simp only [Int.reducePow] <;> omega

theorem over_word {m hi' : Nat} {w : Int} {a b : Nat} (hh : hi' < 18446744073709551616)
    (hk : ∃ k : Int, sx a w * sx b w = (hi' : Int) * 18446744073709551616 + ((m % 18446744073709551616 : Nat) : Int) + 340282366920938463463374607431768211456 * k) :
    overS w a b = cond (ine ((ext (m % 18446744073709551616) w : Nat) : Int) ((m % 18446744073709551616 : Nat) : Int) == false) (ine (hi' : Int) (iconv .u64 (ishr .i64 (iconv .i64 ((m % 18446744073709551616 : Nat) : Int)) 63))) true := by
  have hl : m % 18446744073709551616 < 18446744073709551616 := Nat.mod_lt _ (by decide)
  have ho := over_of (T := 2 ^ (8 * wd w - 1)) (half_le w) hh (sx_126 a b w) hk
  rw [sign_word hl]
  have hs := ext_same _ hl w
  unfold overS
  have ine_n : ∀ p q : Nat, ine (p : Int) (q : Int) = decide (p ≠ q) := fun p q => by
    unfold ine
    by_cases h : p = q
    · subst h; simp
    · have : ¬ ((p : Int) = (q : Int)) := by omega
      simp [h, this]
  rw [ine_n, ine_n]
  by_cases h1 : ext (m % 18446744073709551616) w = m % 18446744073709551616
  · have e1 : (decide (ext (m % 18446744073709551616) w ≠ m % 18446744073709551616) == false) = true := by simp [h1]
    rw [e1, cond_true, ← Bool.decide_and, ← decide_not, decide_eq_decide, ← ho]
    constructor
    · intro h e; exact h ⟨hs.1 h1, e⟩
    · intro h e; exact h e.2
  · have e1 : (decide (ext (m % 18446744073709551616) w ≠ m % 18446744073709551616) == false) = false := by simp [h1]
    rw [e1, cond_false, ← Bool.decide_and, ← decide_not, decide_eq_true_eq, ← ho]
    intro e; exact h1 (hs.2 e.1)

theorem isub_mod (a b : Nat) : ∃ c : Nat, isub .u64 (a : Int) (b : Int) = (c : Int) ∧ c < 18446744073709551616 ∧ ∃ k : Int, (a : Int) - b = c + 18446744073709551616 * k := by
  refine ⟨((a : Int) - b) % 18446744073709551616 |>.toNat, ?_, by omega, ((a : Int) - b) / 18446744073709551616, by omega⟩
  unfold isub; rw [wrap_u64]; omega

theorem imul_eq {a b : Nat} (ha : a < 18446744073709551616) (hb : b < 18446744073709551616) (w : Int) :
    pre31 (w, ((a : Int), (b : Int))) ∧ fn31 (w, ((a : Int), (b : Int))) = imulF w a b := by
  have hX := ext_64 a w
  have hY := ext_64 b w
  have hm := mul64 hX hY
  have hp := sx_64 a w
  have hq := sx_64 b w
  have z63 : (0 : Int) ≤ 63 := by decide
  have hlt : ∀ (z : Nat) (v : Int), v = (if z < 9223372036854775808 then (z : Int) else (z : Int) - 18446744073709551616) → z < 18446744073709551616 → ilt v 0 = decide (¬ z < 9223372036854775808) := by
    intro z v hv hz
    unfold ilt
    rw [hv, decide_eq_decide]
    split <;> omega
  have lX := hlt _ _ hp hX
  have lY := hlt _ _ hq hY
  have hlo : ext a w * ext b w % 18446744073709551616 < 18446744073709551616 := Nat.mod_lt _ (by decide)
  have hhi : ext a w * ext b w / 18446744073709551616 < 18446744073709551616 := by
    rw [Nat.div_lt_iff_lt_mul (by decide)]
    calc ext a w * ext b w ≤ ext a w * 18446744073709551616 := Nat.mul_le_mul_left _ (Nat.le_of_lt hY)
      _ < 18446744073709551616 * 18446744073709551616 := Nat.mul_lt_mul_of_pos_right hX (by decide)
  have hcl : fn14 (((ext a w * ext b w % 18446744073709551616 : Nat) : Int), w) = (cut (ext a w * ext b w) w : Int) := by rw [cut_eq hlo, mod_64_cut]
  have ht := fun c o => told_eq (cut_64 (ext a w * ext b w) w) w c o
  -- the end, the same on all ways
  have fin : ∀ hi' : Nat, hi' < 18446744073709551616 → (∃ k : Int, sx a w * sx b w = (hi' : Int) * 18446744073709551616 + ((ext a w * ext b w % 18446744073709551616 : Nat) : Int) + 340282366920938463463374607431768211456 * k) →
      ∀ Q1 Q2 : Prop, (Q1 ∧ Q2) → True := fun _ _ _ _ _ _ => trivial
  clear fin
  have big : ((ext a w * ext b w : Nat) : Int) = (ext a w : Int) * (ext b w : Int) := Int.natCast_mul _ _
  unfold pre31 fn31 tree31 Tr.ok
  simp only [ext_eq, sx_eq, hm.2, lX, lY, hcl, Tr.wp, Tr.val]
  have oo := fun (hi' : Nat) h1 h2 => over_word (m := ext a w * ext b w) (hi' := hi') (w := w) (a := a) (b := b) h1 h2
  by_cases nX : ext a w < 9223372036854775808
  · rw [if_pos nX] at hp
    rw [decide_eq_false (show ¬ ¬ ext a w < 9223372036854775808 by omega)]
    simp only [cond_false]
    by_cases nY : ext b w < 9223372036854775808
    · rw [if_pos nY] at hq
      rw [decide_eq_false (show ¬ ¬ ext b w < 9223372036854775808 by omega)]
      simp only [cond_false]
      have ho := oo (ext a w * ext b w / 18446744073709551616) hhi ⟨0, by rw [hp, hq, ← big]; omega⟩
      generalize hc : (ine ((ext (ext a w * ext b w % 18446744073709551616) w : Nat) : Int) ((ext a w * ext b w % 18446744073709551616 : Nat) : Int) == false) = cc at ho ⊢
      cases cc with
      | true => simp only [cond_true] at ho ⊢; rw [← ho, (ht _ _).2]; exact ⟨⟨ext_ok _ _, ext_ok _ _, hm.1, ext_ok _ _, z63, cut_ok _ _, (ht _ _).1, trivial⟩, rfl⟩
      | false => simp only [cond_false] at ho ⊢; rw [(ht _ _).2]; exact ⟨⟨ext_ok _ _, ext_ok _ _, hm.1, ext_ok _ _, cut_ok _ _, (ht _ _).1, trivial⟩, by unfold imulF; rw [ho]⟩
    · rw [if_neg nY] at hq
      rw [decide_eq_true nY]
      simp only [cond_true]
      obtain ⟨h1, e1, l1, k1, r1⟩ := isub_mod (ext a w * ext b w / 18446744073709551616) (ext a w)
      have ho := oo h1 l1 ⟨k1, by rw [hp, hq, Int.mul_sub, ← big]; omega⟩
      rw [e1]
      generalize hc : (ine ((ext (ext a w * ext b w % 18446744073709551616) w : Nat) : Int) ((ext a w * ext b w % 18446744073709551616 : Nat) : Int) == false) = cc at ho ⊢
      cases cc with
      | true => simp only [cond_true] at ho ⊢; rw [← ho, (ht _ _).2]; exact ⟨⟨ext_ok _ _, ext_ok _ _, hm.1, ext_ok _ _, z63, cut_ok _ _, (ht _ _).1, trivial⟩, rfl⟩
      | false => simp only [cond_false] at ho ⊢; rw [(ht _ _).2]; exact ⟨⟨ext_ok _ _, ext_ok _ _, hm.1, ext_ok _ _, cut_ok _ _, (ht _ _).1, trivial⟩, by unfold imulF; rw [ho]⟩
  · rw [if_neg nX] at hp
    rw [decide_eq_true nX]
    simp only [cond_true]
    by_cases nY : ext b w < 9223372036854775808
    · rw [if_pos nY] at hq
      rw [decide_eq_false (show ¬ ¬ ext b w < 9223372036854775808 by omega)]
      simp only [cond_false]
      obtain ⟨h1, e1, l1, k1, r1⟩ := isub_mod (ext a w * ext b w / 18446744073709551616) (ext b w)
      have ho := oo h1 l1 ⟨k1, by rw [hp, hq, Int.sub_mul, ← big]; omega⟩
      rw [e1]
      generalize hc : (ine ((ext (ext a w * ext b w % 18446744073709551616) w : Nat) : Int) ((ext a w * ext b w % 18446744073709551616 : Nat) : Int) == false) = cc at ho ⊢
      cases cc with
      | true => simp only [cond_true] at ho ⊢; rw [← ho, (ht _ _).2]; exact ⟨⟨ext_ok _ _, ext_ok _ _, hm.1, ext_ok _ _, z63, cut_ok _ _, (ht _ _).1, trivial⟩, rfl⟩
      | false => simp only [cond_false] at ho ⊢; rw [(ht _ _).2]; exact ⟨⟨ext_ok _ _, ext_ok _ _, hm.1, ext_ok _ _, cut_ok _ _, (ht _ _).1, trivial⟩, by unfold imulF; rw [ho]⟩
    · rw [if_neg nY] at hq
      rw [decide_eq_true nY]
      simp only [cond_true]
      obtain ⟨h1, e1, l1, k1, r1⟩ := isub_mod (ext a w * ext b w / 18446744073709551616) (ext b w)
      obtain ⟨h2, e2, l2, k2, r2⟩ := isub_mod h1 (ext a w)
      have ho := oo h2 l2 ⟨k1 + k2 + 1, by rw [hp, hq, Int.sub_mul, Int.mul_sub, Int.mul_sub, ← big]; omega⟩
      rw [e1, e2]
      generalize hc : (ine ((ext (ext a w * ext b w % 18446744073709551616) w : Nat) : Int) ((ext a w * ext b w % 18446744073709551616 : Nat) : Int) == false) = cc at ho ⊢
      cases cc with
      | true => simp only [cond_true] at ho ⊢; rw [← ho, (ht _ _).2]; exact ⟨⟨ext_ok _ _, ext_ok _ _, hm.1, ext_ok _ _, z63, cut_ok _ _, (ht _ _).1, trivial⟩, rfl⟩
      | false => simp only [cond_false] at ho ⊢; rw [(ht _ _).2]; exact ⟨⟨ext_ok _ _, ext_ok _ _, hm.1, ext_ok _ _, cut_ok _ _, (ht _ _).1, trivial⟩, by unfold imulF; rw [ho]⟩

/-! ### The law -/
theorem low_same (a b : Nat) (w : Int) : cut (ext a w * ext b w) w = lowF w a b := by
  unfold lowF
  rw [← cut_ext a w, ← cut_ext b w]
  unfold cut
  rw [Nat.mul_mod]

theorem sx_mod (a : Nat) (w : Int) : ∃ k : Int, sx a w = (cut a w : Int) + ((2 ^ (8 * wd w) : Nat) : Int) * k := by
  have hw := wd_pos w
  have e2T : 2 ^ (8 * wd w) = 2 * 2 ^ (8 * wd w - 1) := by rw [← Nat.pow_succ']; congr 1; omega
  unfold sx
  rw [e2T]
  generalize 2 ^ (8 * wd w - 1) = T
  split
  · exact ⟨0, by simp⟩
  · exact ⟨-1, by rw [Int.mul_neg, Int.mul_one]; push_cast; omega⟩

theorem low_int (a b : Nat) (w : Int) : ∃ k : Int, ((lowF w a b : Nat) : Int) = sx a w * sx b w + ((2 ^ (8 * wd w) : Nat) : Int) * k := by
  obtain ⟨i, hi⟩ := sx_mod a w
  obtain ⟨j, hj⟩ := sx_mod b w
  have hl : (lowF w a b : Int) = (cut a w : Int) * (cut b w : Int) - ((2 ^ (8 * wd w) : Nat) : Int) * ((cut a w * cut b w / 2 ^ (8 * wd w) : Nat) : Int) := by
    unfold lowF
    have := Nat.div_add_mod (cut a w * cut b w) (2 ^ (8 * wd w))
    have e : (((2 ^ (8 * wd w) * (cut a w * cut b w / 2 ^ (8 * wd w)) + cut a w * cut b w % 2 ^ (8 * wd w) : Nat)) : Int) = ((cut a w * cut b w : Nat) : Int) := by rw [this]
    rw [Int.natCast_add, Int.natCast_mul, Int.natCast_mul] at e
    omega
  refine ⟨-((cut a w * cut b w / 2 ^ (8 * wd w) : Nat) : Int) - i * (cut b w : Int) - j * (cut a w : Int) - ((2 ^ (8 * wd w) : Nat) : Int) * (i * j), ?_⟩
  rw [hl, hi, hj]
  generalize ((2 ^ (8 * wd w) : Nat) : Int) = P
  generalize ((cut a w * cut b w / 2 ^ (8 * wd w) : Nat) : Int) = Q
  generalize (cut a w : Int) = A
  generalize (cut b w : Int) = B
  simp only [Int.add_mul, Int.mul_add, Int.mul_sub, Int.mul_neg]
  have e1 : P * i * (P * j) = P * (P * (i * j)) := by rw [Int.mul_assoc, Int.mul_left_comm i P j]
  have e2 : P * (i * B) = P * i * B := by rw [Int.mul_assoc]
  have e3 : P * (j * A) = A * (P * j) := by rw [Int.mul_comm A, Int.mul_assoc]
  rw [e1, e2, e3]
  omega

theorem uniq_neg {x y r P : Nat} (hx : x < P) (hy : y < P) (hr : r < P) (h1 : (x + r) % P = 0) (h2 : (y + r) % P = 0) : x = y := by
  have key : ∀ z, z < P → (z + r) % P = 0 → (r = 0 ∧ z = 0) ∨ z + r = P := by
    intro z hz h
    by_cases hc : z + r < P
    · rw [Nat.mod_eq_of_lt hc] at h; omega
    · rw [Nat.mod_eq_sub_mod (by omega), Nat.mod_eq_of_lt (by omega)] at h; omega
  have k1 := key x hx h1
  have k2 := key y hy h2
  omega

theorem neg_prod (a b : Nat) (w : Int) : lowF w (cut (rest 0 a false w) w) b = cut (rest 0 (lowF w a b) false w) w := by
  have hP : 0 < 2 ^ (8 * wd w) := Nat.pow_pos (by decide)
  have hA := cut_lt a w
  have ec0 : cut 0 w = 0 := cut_small hP
  have hl := low_lt w a b
  have e1 : cut (rest 0 a false w) w = if cut a w ≤ 0 then 0 - cut a w else 0 + 2 ^ (8 * wd w) - cut a w := by
    rw [rest_mod, ec0, Bool.toNat_false, sub_mod hP hA]
  have e2 : cut (rest 0 (lowF w a b) false w) w = if lowF w a b ≤ 0 then 0 - lowF w a b else 0 + 2 ^ (8 * wd w) - lowF w a b := by
    rw [rest_mod, ec0, Bool.toNat_false, cut_small hl, sub_mod hP hl]
  refine uniq_neg (P := 2 ^ (8 * wd w)) (r := lowF w a b) (low_lt _ _ _) (cut_lt _ _) hl ?_ ?_
  · unfold lowF
    rw [cut_small (cut_lt (rest 0 a false w) w), ← Nat.add_mod, ← Nat.add_mul]
    have : (cut (rest 0 a false w) w + cut a w) % 2 ^ (8 * wd w) = 0 := by
      rw [e1]; split
      · rw [show 0 - cut a w + cut a w = 0 by omega]; exact Nat.zero_mod _
      · rw [show 0 + 2 ^ (8 * wd w) - cut a w + cut a w = 2 ^ (8 * wd w) by omega, Nat.mod_self]
    rw [Nat.mul_mod, this, Nat.zero_mul, Nat.zero_mod]
  · rw [e2]; split
    · rw [show 0 - lowF w a b + lowF w a b = 0 by omega]; exact Nat.zero_mod _
    · rw [show 0 + 2 ^ (8 * wd w) - lowF w a b + lowF w a b = 2 ^ (8 * wd w) by omega, Nat.mod_self]

theorem fits_sign {w : Int} (r : Nat) (Pd : Int) (hr : r < 2 ^ (8 * wd w)) (hk : ∃ k : Int, (r : Int) = Pd + ((2 ^ (8 * wd w) : Nat) : Int) * k) :
    (ieq (sx r w) Pd) = (decide (-((2 ^ (8 * wd w - 1) : Nat) : Int) ≤ Pd) && decide (Pd < ((2 ^ (8 * wd w - 1) : Nat) : Int))) := by
  obtain ⟨k, hk⟩ := hk
  unfold ieq
  rw [Bool.eq_iff_iff]
  simp only [beq_iff_eq, Bool.and_eq_true, decide_eq_true_eq]
  unfold sx
  rw [cut_small hr]
  rcases wd_cases w with h | h | h | h | h | h | h | h <;> rw [h] at hr hk ⊢ <;> simp only [Nat.reduceMul, Nat.reduceSub, Nat.reducePow] at hr hk ⊢ <;> split <;> omega

theorem aluSigned (x0 x1 x2 : Int) (w1 : (Lit.int .u64 x1).wf = true) (w2 : (Lit.int .u64 x2).wf = true) :
    pre10 (x0, (x1, x2)) ∧ fn10 (x0, (x1, x2)) = true := by
  obtain ⟨a, rfl, ha⟩ := u64_nat w1
  obtain ⟨b, rfl, hb⟩ := u64_nat w2
  have hwk := wakes13
  unfold pre10 fn10 tree10 Tr.ok
  simp only [Tr.wp, Tr.val]
  by_cases g1 : x0 < 1
  · have : ilt x0 1 = true := by simp [ilt, g1]
    simp only [this, show ((true : Bool) == false) = false from rfl, cond_false]
    exact ⟨⟨hwk.1, trivial⟩, hwk.2⟩
  · have g1' : ilt x0 1 = false := by simp [ilt]; omega
    simp only [g1', show ((false : Bool) == false) = true from rfl, cond_true]
    by_cases g2 : 4 < x0
    · have : ilt 4 x0 = true := by simp [ilt, g2]
      simp only [this, cond_true]
      exact ⟨⟨hwk.1, trivial⟩, hwk.2⟩
    · have g2' : ilt 4 x0 = false := by simp [ilt]; omega
      simp only [g2', cond_false]
      have hwd : (wd x0 : Int) = x0 := by unfold wd; split <;> (try split) <;> omega
      have hw4 : wd x0 ≤ 4 := by omega
      have hw := wd_pos x0
      have him := imul_eq ha hb x0
      have hmu := mul_eq ha hb x0
      have hea := rext_eq ha x0
      have heb := rext_eq hb x0
      have hne := aneg_eq ha x0
      have hbk := imul_eq (a := cut (rest 0 a false x0) x0) (cut_64 _ _) hb x0
      have hl := low_lt x0 a b
      have hh := high_lt x0 a b
      have hl64 : lowF x0 a b < 18446744073709551616 := Nat.lt_of_lt_of_le hl (pw_le x0)
      have hne2 := aneg_eq hl64 x0
      have her := rext_eq hl64 x0
      have hP : 2 ^ (8 * wd x0) ≤ 4294967296 := Nat.le_trans (Nat.pow_le_pow_right (by decide) (show 8 * wd x0 ≤ 32 by omega)) (by decide)
      have v1 : (imulF x0 a b).1 = ((lowF x0 a b : Nat) : Int) := by unfold imulF; rw [low_same]
      have v2 : (mulF x0 a b).1 = ((lowF x0 a b : Nat) : Int) := rfl
      have v3 : (mulF x0 a b).2.1 = ((highF x0 a b : Nat) : Int) := rfl
      have v4 : (mulF x0 a b).2.2.1 = decide (highF x0 a b ≠ 0) := rfl
      have v5 : (imulF x0 a b).2.1 = overS x0 a b := rfl
      have v6 : (imulF x0 a b).2.2.2.2.1 = overS x0 a b := rfl
      have v7 : fn31 (x0, ((asubF x0 0 a false).1, (b : Int))) = imulF x0 (cut (rest 0 a false x0) x0) b := hbk.2
      have v8 : (imulF x0 (cut (rest 0 a false x0) x0) b).1 = (asubF x0 0 (lowF x0 a b) false).1 := by
        unfold imulF; rw [low_same, neg_prod]; rfl
      have bound : (sx a x0 * sx b x0).natAbs ≤ 4611686018427387904 := by
        have h1 := sx_prod a b x0
        have h2 : 2 ^ (8 * wd x0 - 1) ≤ 2147483648 := Nat.le_trans (Nat.pow_le_pow_right (by decide) (show 8 * wd x0 - 1 ≤ 31 by omega)) (by decide)
        have h3 : 2 ^ (8 * wd x0 - 1) * 2 ^ (8 * wd x0 - 1) ≤ 2147483648 * 2147483648 := Nat.mul_le_mul h2 h2
        omega
      have v9 : imul .i64 (sx a x0) (sx b x0) = sx a x0 * sx b x0 := by unfold imul; exact i64_small (by omega) (by omega)
      have v10 : ieq (sx (lowF x0 a b) x0) (sx a x0 * sx b x0) = !overS x0 a b := by
        rw [fits_sign _ _ hl (low_int a b x0)]; unfold overS; rw [Bool.not_not]
      have v11 : iconv .u64 (imul .i64 8 x0) = ((8 * wd x0 : Nat) : Int) := by
        unfold imul iconv; rw [i64_small (by omega) (by omega), wrap_u64]; omega
      have hprod : cut a x0 * cut b x0 < 18446744073709551616 := by
        have h1 := prod_lt x0 a b
        have h2 : 2 ^ (8 * wd x0) * 2 ^ (8 * wd x0) ≤ 4294967296 * 4294967296 := Nat.mul_le_mul hP hP
        omega
      have hsplit : highF x0 a b * 2 ^ (8 * wd x0) + lowF x0 a b = cut a x0 * cut b x0 := Nat.div_add_mod' _ _
      have v12 : ior .u64 ((lowF x0 a b : Nat) : Int) (ishl .u64 ((highF x0 a b : Nat) : Int) ((8 * wd x0 : Nat) : Int)) = imul .u64 ((cut a x0 : Nat) : Int) ((cut b x0 : Nat) : Int) := by
        rw [imul_u64 hprod, ishl_u64 (by omega), Nat.mod_eq_of_lt (by omega), ior_u64 hl64 (by omega), Nat.or_comm, Nat.mul_comm, ← Nat.two_pow_add_eq_or_of_lt hl]
        rw [Nat.mul_comm, hsplit]
      have eqs : ∀ p : Bool, ((p == p) == true) = true := fun p => by cases p <;> rfl
      have v13 : pre31 (x0, ((asubF x0 0 a false).1, (b : Int))) := hbk.1
      have n11 : (0 : Int) ≤ ((8 * wd x0 : Nat) : Int) := by omega
      simp only [him.2, hmu.2, hea.2, heb.2, hne.2, v7, v1, v2, v3, v4, v5, v6, v8, hne2.2, her.2, sx_eq, v9, v10, v11, rcut_eq ha, rcut_eq hb, v12, ine_zero, ieq_self, eqs, cond_true, show ((true : Bool) == true) = true from rfl]
      exact ⟨⟨him.1, hmu.1, hea.1, heb.1, rcut_ok _ _, rcut_ok _ _, hne.1, v13, hne2.1, her.1, n11, hwk.1, trivial⟩, hwk.2⟩
end Go.Eng.RA
end
section
/- Plain laws: shifts. -/
namespace Go.Eng.RA
open Go.Eng
set_option maxRecDepth 100000

abbrev PW (w : Int) : Nat := 2 ^ (8 * wd w)

theorem PW_pos (w : Int) : 0 < PW w := Nat.pow_pos (by decide)

def shlN (a : Nat) (w : Int) (k : Nat) : Nat := a * 2 ^ k % PW w

theorem shlN_lt (a : Nat) (w : Int) (k : Nat) : shlN a w k < PW w := Nat.mod_lt _ (PW_pos w)
theorem shlN_64 (a : Nat) (w : Int) (k : Nat) : shlN a w k < 18446744073709551616 := Nat.lt_of_lt_of_le (shlN_lt a w k) (pw_le w)

theorem shl_step (x : Nat) (w : Int) : fn14 (ishl .u64 (x : Int) 1, w) = ((x * 2 % PW w : Nat) : Int) := by
  have e : ishl .u64 (x : Int) 1 = ((x * 2 % 18446744073709551616 : Nat) : Int) := by have := ishl_u64 (a := x) (k := 1) (by decide); simpa using this
  rw [e, cut_eq (Nat.mod_lt _ (by decide)), mod_64_cut]; rfl

theorem shl_next (a : Nat) (w : Int) (i : Nat) : shlN a w i * 2 % PW w = shlN a w (i + 1) := by
  unfold shlN
  rw [Nat.mod_mul_mod, Nat.pow_succ, Nat.mul_assoc]

theorem fallen_left {a0 a : Nat} (w : Int) (k : Nat) (hk : k < 1000) :
    ∀ (d i : Nat), k = i + d → 1 ≤ i → Ends (step69 ((a0 : Int), (w, ((k : Int), true)))) (((shlN a w k : Nat) : Int), sg (shlN a w (k - 1)) w) (step69 ((a0 : Int), (w, ((k : Int), true))) (.h0 (i : Int) ((shlN a w i : Nat) : Int) (sg (shlN a w (i - 1)) w) ((shlN a w i : Nat) : Int)))
  | 0, i, hi, _ => by
    have hc : ilt (i : Int) (k : Int) = false := by simp [ilt]; omega
    simp only [step69, hc]
    refine .no _ _ ?_
    rw [show k = i by omega]; exact .ret
  | d + 1, i, hi, h1 => by
    have hc : ilt (i : Int) (k : Int) = true := by simp [ilt]; omega
    simp only [step69, hc, sign_eq, shl_step, shl_next, next_i64 (i := i) (by omega)]
    refine .yes _ _ (.need _ _ (sign_ok _ _) (.yes _ _ (.need _ _ (by decide) (.need _ _ (cut_ok _ _) (.jump _ ?_)))))
    exact fallen_left w k hk d (i + 1) (by omega) (by omega)

theorem fallen_left_eq {a : Nat} {w : Int} (ha : a < PW w) (k : Nat) (hk : k < 1000) (h0 : 0 < k) :
    pre69 ((a : Int), (w, ((k : Int), true))) ∧ fn69 ((a : Int), (w, ((k : Int), true))) = (((shlN a w k : Nat) : Int), sg (shlN a w (k - 1)) w) := by
  have h : Ends (step69 ((a : Int), (w, ((k : Int), true)))) (((shlN a w k : Nat) : Int), sg (shlN a w (k - 1)) w) (tree69 ((a : Int), (w, ((k : Int), true)))) := by
    refine .jump _ ?_
    have hc : ilt (0 : Int) (k : Int) = true := by simp [ilt]; omega
    have e1 : a * 2 % PW w = shlN a w 1 := by unfold shlN; rw [Nat.pow_one]
    have e0 : sg a w = sg (shlN a w (1 - 1)) w := by unfold shlN; rw [Nat.sub_self, Nat.pow_zero, Nat.mul_one, Nat.mod_eq_of_lt ha]
    simp only [step69, hc, sign_eq, shl_step, e1, e0, show iadd .i64 0 1 = ((1 : Nat) : Int) by decide]
    exact .yes _ _ (.need _ _ (sign_ok _ _) (.yes _ _ (.need _ _ (by decide) (.need _ _ (cut_ok _ _) (.jump _ (fallen_left w k hk (k - 1) 1 (by omega) (by omega)))))))
  exact ⟨⟨_, h⟩, endVal_eq h⟩

theorem shr_one (x : Nat) : ishr .u64 (x : Int) 1 = ((x / 2 : Nat) : Int) := by have := ishr_u64 (a := x) (k := 1) (by decide); simpa using this

theorem low_one (x : Nat) : ieq (iand .u64 (x : Int) 1) 1 = decide (x % 2 = 1) := by
  rw [low_bit]
  unfold ieq
  by_cases h : x % 2 = 1
  · simp [h]
  · have : x % 2 = 0 := by omega
    simp [this]

theorem fallen_right {a0 : Nat} (a : Nat) (w : Int) (k : Nat) (hk : k < 1000) :
    ∀ (d i : Nat), k = i + d → 1 ≤ i → Ends (step69 ((a0 : Int), (w, ((k : Int), false)))) (((a / 2 ^ k : Nat) : Int), decide (a / 2 ^ (k - 1) % 2 = 1)) (step69 ((a0 : Int), (w, ((k : Int), false))) (.h0 (i : Int) ((a / 2 ^ i : Nat) : Int) (decide (a / 2 ^ (i - 1) % 2 = 1)) ((a / 2 ^ i : Nat) : Int)))
  | 0, i, hi, _ => by
    have hc : ilt (i : Int) (k : Int) = false := by simp [ilt]; omega
    simp only [step69, hc]
    refine .no _ _ ?_
    rw [show k = i by omega]; exact .ret
  | d + 1, i, hi, h1 => by
    have hc : ilt (i : Int) (k : Int) = true := by simp [ilt]; omega
    have e1 : a / 2 ^ i / 2 = a / 2 ^ (i + 1) := by rw [Nat.div_div_eq_div_mul, ← Nat.pow_succ]
    simp only [step69, hc, low_one, shr_one, e1, next_i64 (i := i) (by omega)]
    refine .yes _ _ (.need _ _ (sign_ok _ _) (.no _ _ (.need _ _ (by decide) (.jump _ ?_))))
    exact fallen_right a w k hk d (i + 1) (by omega) (by omega)

theorem fallen_right_eq (a : Nat) (w : Int) (k : Nat) (hk : k < 1000) (h0 : 0 < k) :
    pre69 ((a : Int), (w, ((k : Int), false))) ∧ fn69 ((a : Int), (w, ((k : Int), false))) = (((a / 2 ^ k : Nat) : Int), decide (a / 2 ^ (k - 1) % 2 = 1)) := by
  have h : Ends (step69 ((a : Int), (w, ((k : Int), false)))) (((a / 2 ^ k : Nat) : Int), decide (a / 2 ^ (k - 1) % 2 = 1)) (tree69 ((a : Int), (w, ((k : Int), false)))) := by
    refine .jump _ ?_
    have hc : ilt (0 : Int) (k : Int) = true := by simp [ilt]; omega
    have e1 : a / 2 = a / 2 ^ 1 := by rw [Nat.pow_one]
    have e0 : decide (a % 2 = 1) = decide (a / 2 ^ (1 - 1) % 2 = 1) := by rw [Nat.sub_self, Nat.pow_zero, Nat.div_one]
    simp only [step69, hc, low_one, shr_one, e0, show iadd .i64 0 1 = ((1 : Nat) : Int) by decide]
    rw [e1]
    exact .yes _ _ (.need _ _ (sign_ok _ _) (.no _ _ (.need _ _ (by decide) (.jump _ (fallen_right a w k hk (k - 1) 1 (by omega) (by omega))))))
  exact ⟨⟨_, h⟩, endVal_eq h⟩

/-! ### Each deed -/
def shlF (w : Int) (a k : Nat) : Int × Fl := ((shlN a w k : Int), flagsOf (shlN a w k) w (sg (shlN a w (k - 1)) w) (!(sg (shlN a w k) w == sg (shlN a w (k - 1)) w)))
def shrF (w : Int) (a k : Nat) : Int × Fl := (((a / 2 ^ k : Nat) : Int), flagsOf (a / 2 ^ k) w (decide (a / 2 ^ (k - 1) % 2 = 1)) (sg a w))
def sarN (w : Int) (a k : Nat) : Nat := ((sx a w / 2 ^ k) % (PW w : Int)).toNat
def sarF (w : Int) (a k : Nat) : Int × Fl := ((sarN w a k : Int), flagsOf (sarN w a k) w (decide (sx a w / 2 ^ (k - 1) % 2 = 1)) false)
/-- The flags of a turn: carry and overflow alone are new. -/
def turnedF (was : Fl) (c o : Bool) : Fl := (c, (was.2.1, (was.2.2.1, (o, was.2.2.2.2))))
def rolF (w : Int) (a k : Nat) (was : Fl) : Int × Fl :=
  ((turn a k w : Int), turnedF was (decide (turn a k w % 2 = 1)) (!(sg (turn a k w) w == decide (turn a k w % 2 = 1))))
def rorF (w : Int) (a k : Nat) (was : Fl) : Int × Fl :=
  ((turn a (-(k : Int)) w : Int), turnedF was (sg (turn a (-(k : Int)) w) w) (sg (turn a (-(k : Int)) w ^^^ (turn a (-(k : Int)) w * 2 % 18446744073709551616)) w))

theorem shl_eq {a : Nat} {w : Int} (ha : a < PW w) (k : Nat) (hk : k < 1000) (h0 : 0 < k) (was : Fl) :
    pre68 (w, ((a : Int), ((k : Int), was))) ∧ fn68 (w, ((a : Int), ((k : Int), was))) = shlF w a k := by
  have h := fallen_left_eq ha k hk h0
  have ht := told_eq (shlN_64 a w k) w (sg (shlN a w (k - 1)) w) (!(sg (shlN a w k) w == sg (shlN a w (k - 1)) w))
  unfold pre68 fn68 tree68 Tr.ok
  simp only [h.2, sign_eq, ht.2, Tr.wp, Tr.val]
  exact ⟨⟨h.1, sign_ok _ _, ht.1, trivial⟩, rfl⟩

theorem shr_eq {a : Nat} {w : Int} (ha : a < PW w) (k : Nat) (hk : k < 1000) (h0 : 0 < k) (was : Fl) :
    pre70 (w, ((a : Int), ((k : Int), was))) ∧ fn70 (w, ((a : Int), ((k : Int), was))) = shrF w a k := by
  have h := fallen_right_eq a w k hk h0
  have hle : a / 2 ^ k ≤ a := Nat.div_le_self _ _
  have hp := pw_le w
  have ht := told_eq (r := a / 2 ^ k) (by unfold PW at ha; omega) w (decide (a / 2 ^ (k - 1) % 2 = 1)) (sg a w)
  unfold pre70 fn70 tree70 Tr.ok
  simp only [h.2, sign_eq, ht.2, Tr.wp, Tr.val]
  exact ⟨⟨h.1, sign_ok _ _, ht.1, trivial⟩, rfl⟩

theorem cut_int (z : Int) (w : Int) : fn14 (iconv .u64 z, w) = (((z % (PW w : Int)).toNat : Nat) : Int) := by
  have e : iconv .u64 z = ((z % 18446744073709551616).toNat : Int) := by unfold iconv; rw [wrap_u64]; omega
  rw [e, cut_eq (by omega)]
  unfold cut PW
  rcases wd_cases w with h | h | h | h | h | h | h | h <;> rw [h] <;> simp only [Nat.reduceMul, Nat.reducePow] <;> omega

theorem iand_one (z : Int) : ieq (iand .i64 z 1) 1 = decide (z % 2 = 1) := by
  have e : iand .i64 z 1 = z % 2 := by
    have e1 : iand .i64 z 1 = IntKind.wrap .i64 ((BitVec.ofInt 64 z &&& BitVec.ofInt 64 ((1 : Nat) : Int)).toNat : Nat) := rfl
    rw [e1, BitVec.toNat_and, ofInt_nat (b := 64) (a := 1) (by decide), BitVec.toNat_ofInt, Nat.and_one_is_mod, i64_small (by omega) (by omega)]
    omega
  rw [e]
  unfold ieq
  by_cases h : z % 2 = 1
  · simp [h]
  · have : z % 2 = 0 := by omega
    simp [this]

theorem sarN_lt (w : Int) (a k : Nat) : sarN w a k < PW w := by
  unfold sarN
  have := PW_pos w
  have h1 := Int.emod_nonneg (sx a w / 2 ^ k) (b := (PW w : Int)) (by omega)
  have h2 := Int.emod_lt_of_pos (sx a w / 2 ^ k) (b := (PW w : Int)) (by omega)
  omega

theorem sar_eq {a : Nat} {w : Int} (k : Nat) (hk : k < 64) (h0 : 0 < k) (was : Fl) :
    pre71 (w, ((a : Int), ((k : Int), was))) ∧ fn71 (w, ((a : Int), ((k : Int), was))) = sarF w a k := by
  have e1 : isub .i64 (k : Int) 1 = ((k - 1 : Nat) : Int) := by unfold isub; rw [i64_small (by omega) (by omega)]; omega
  have s1 : ishr .i64 (sx a w) (k : Int) = sx a w / 2 ^ k := ishr_i64 hk
  have s2 : ishr .i64 (sx a w) ((k - 1 : Nat) : Int) = sx a w / 2 ^ (k - 1) := ishr_i64 (by omega)
  have hc : fn14 (iconv .u64 (sx a w / 2 ^ k), w) = (sarN w a k : Int) := cut_int _ w
  have ht := told_eq (Nat.lt_of_lt_of_le (sarN_lt w a k) (pw_le w)) w (decide (sx a w / 2 ^ (k - 1) % 2 = 1)) false
  unfold pre71 fn71 tree71 Tr.ok
  simp only [ext_eq, sx_eq, e1, s1, s2, hc, iand_one, ht.2, Tr.wp, Tr.val]
  exact ⟨⟨ext_ok _ _, by omega, cut_ok _ _, by omega, ht.1, trivial⟩, rfl⟩

/-- How many bits a shift goes. -/
def cnt (w : Int) (n : Nat) : Nat := if 8 ≤ w then n % 64 else n % 32

def shiftF (do_ w : Int) (a n : Nat) (was : Fl) : Int × Fl :=
  if cnt w n = 0 then ((cut a w : Int), was)
  else if do_ = 16 then shlF w (cut a w) (cnt w n)
  else if do_ = 17 then shrF w (cut a w) (cnt w n)
  else if do_ = 18 then sarF w (cut a w) (cnt w n)
  else if do_ = 19 then rolF w (cut a w) (cnt w n) was
  else if do_ = 20 then rorF w (cut a w) (cnt w n) was
  else ((cut a w : Int), was)

theorem and63 : ∀ n < 256, iand .i64 (iconv .i64 ((n : Nat) : Int)) 63 = ((n % 64 : Nat) : Int) := by decide +kernel
theorem and31 : ∀ n < 256, iand .i64 (iconv .i64 ((n : Nat) : Int)) 31 = ((n % 32 : Nat) : Int) := by decide +kernel

theorem ieq_dec (x y : Int) : ieq x y = decide (x = y) := by
  unfold ieq
  by_cases h : x = y
  · subst h; simp
  · simp [h]

theorem rol_facts {a : Nat} {w : Int} (ha : a < PW w) (k : Nat) (was : Fl) :
    pre20 ((a : Int), ((k : Int), w)) ∧ fn20 ((a : Int), ((k : Int), w)) = (turn a k w : Int) ∧
    (turn a k w : Nat) < 18446744073709551616 := by
  have ha64 : a < 18446744073709551616 := Nat.lt_of_lt_of_le ha (pw_le w)
  have h := turn_eq ha64 (k : Int) w
  exact ⟨h.1, h.2, Nat.lt_of_lt_of_le (turn_lt a k w) (pw_le w)⟩

theorem cut_cut (a : Nat) (w : Int) : cut (cut a w) w = cut a w := cut_small (cut_lt a w)

theorem shift_eq {a n : Nat} (ha : a < 18446744073709551616) (hn : n < 256) (do_ w : Int) (was : Fl) :
    pre30 (do_, (w, ((a : Int), ((n : Int), was)))) ∧ fn30 (do_, (w, ((a : Int), ((n : Int), was)))) = shiftF do_ w a n was := by
  have hA : cut a w < PW w := cut_lt a w
  have hA64 := cut_64 a w
  have k0 : ∀ k : Nat, ieq ((k : Nat) : Int) 0 = decide (k = 0) := ieq_zero
  have hneg : ∀ k : Nat, k < 64 → ineg .i64 (k : Int) = -(k : Int) := fun k hk => by unfold ineg; rw [i64_small (by omega) (by omega)]; omega
  have z1 : (0 : Int) ≤ 1 := by decide
  have shl1 : ∀ r : Nat, ishl .u64 (r : Int) 1 = ((r * 2 % 18446744073709551616 : Nat) : Int) := fun r => by have := ishl_u64 (a := r) (k := 1) (by decide); simpa using this
  have xr : ∀ r : Nat, r < 18446744073709551616 → ixor .u64 (r : Int) ((r * 2 % 18446744073709551616 : Nat) : Int) = ((r ^^^ (r * 2 % 18446744073709551616) : Nat) : Int) := fun r hr => ixor_u64 hr (Nat.mod_lt _ (by decide))
  -- the last two deeds, for any count
  have rol : ∀ k : Nat, k < 64 →
      (pre20 ((cut a w : Int), ((k : Int), w)) ∧ fn20 ((cut a w : Int), ((k : Int), w)) = (turn (cut a w) k w : Int)) := fun k _ => turn_eq hA64 (k : Int) w
  have ror : ∀ k : Nat, k < 64 →
      (pre20 ((cut a w : Int), (ineg .i64 (k : Int), w)) ∧ fn20 ((cut a w : Int), (ineg .i64 (k : Int), w)) = (turn (cut a w) (-(k : Int)) w : Int)) := fun k hk => by rw [hneg k hk]; exact turn_eq hA64 _ w
  have t64 : ∀ z : Int, turn (cut a w) z w < 18446744073709551616 := fun z => Nat.lt_of_lt_of_le (turn_lt _ z w) (pw_le w)
  unfold pre30 fn30 tree30 Tr.ok shiftF cnt
  simp only [cut_eq ha, and63 n hn, and31 n hn, k0, ieq_dec do_, Tr.wp, Tr.val]
  have hile : ile 8 w = decide (8 ≤ w) := rfl
  rw [hile]
  by_cases h8 : 8 ≤ w
  · rw [decide_eq_true h8, if_pos h8]
    simp only [cond_true]
    have hk64 : n % 64 < 64 := Nat.mod_lt _ (by decide)
    generalize n % 64 = k at hk64 ⊢
    by_cases hz : k = 0
    · subst hz
      by_cases d1 : do_ = 16
      · simp only [d1, decide_true, cond_true, if_true]; exact ⟨⟨cut_ok _ _, trivial⟩, trivial⟩
      · by_cases d2 : do_ = 17
        · simp only [d2, decide_true, cond_true, if_true, show decide ((17 : Int) = 16) = false by decide, cond_false]; exact ⟨⟨cut_ok _ _, trivial⟩, trivial⟩
        · by_cases d3 : do_ = 18
          · simp only [d3, decide_true, cond_true, if_true, show decide ((18 : Int) = 16) = false by decide, show decide ((18 : Int) = 17) = false by decide, cond_false]; exact ⟨⟨cut_ok _ _, trivial⟩, trivial⟩
          · by_cases d4 : do_ = 19
            · simp only [d4, decide_true, cond_true, if_true, show decide ((19 : Int) = 16) = false by decide, show decide ((19 : Int) = 17) = false by decide, show decide ((19 : Int) = 18) = false by decide, cond_false]; exact ⟨⟨cut_ok _ _, trivial⟩, trivial⟩
            · by_cases d5 : do_ = 20
              · simp only [d5, decide_true, cond_true, if_true, show decide ((20 : Int) = 16) = false by decide, show decide ((20 : Int) = 17) = false by decide, show decide ((20 : Int) = 18) = false by decide, show decide ((20 : Int) = 19) = false by decide, cond_false]; exact ⟨⟨cut_ok _ _, trivial⟩, trivial⟩
              · simp only [d1, d2, d3, d4, d5, decide_false, cond_false, if_true]; exact ⟨⟨cut_ok _ _, trivial⟩, trivial⟩
    · have hp0 : 0 < k := by omega
      rw [if_neg hz]
      by_cases d1 : do_ = 16
      · subst d1
        have h := shl_eq hA k (by omega) hp0 was
        simp only [decide_true, cond_true, if_true, hz, decide_false, cond_false, h.2]
        exact ⟨⟨cut_ok _ _, h.1, trivial⟩, trivial⟩
      · by_cases d2 : do_ = 17
        · subst d2
          have h := shr_eq hA k (by omega) hp0 was
          simp only [decide_true, cond_true, if_true, if_false, show decide ((17 : Int) = 16) = false by decide, hz, d1, decide_false, cond_false, h.2]
          exact ⟨⟨cut_ok _ _, h.1, trivial⟩, trivial⟩
        · by_cases d3 : do_ = 18
          · subst d3
            have h := sar_eq (a := cut a w) (w := w) k hk64 hp0 was
            simp only [decide_true, cond_true, if_true, if_false, show decide ((18 : Int) = 16) = false by decide, show decide ((18 : Int) = 17) = false by decide, hz, d1, d2, decide_false, cond_false, h.2]
            exact ⟨⟨cut_ok _ _, h.1, trivial⟩, trivial⟩
          · by_cases d4 : do_ = 19
            · subst d4
              have h := rol k hk64
              simp only [decide_true, cond_true, if_true, if_false, show decide ((19 : Int) = 16) = false by decide, show decide ((19 : Int) = 17) = false by decide, show decide ((19 : Int) = 18) = false by decide, hz, d1, d2, d3, decide_false, cond_false, h.2, sign_eq, low_one]
              exact ⟨⟨cut_ok _ _, h.1, sign_ok _ _, trivial, trivial⟩, rfl⟩
            · by_cases d5 : do_ = 20
              · subst d5
                have h := ror k hk64
                simp only [decide_true, cond_true, if_true, if_false, show decide ((20 : Int) = 16) = false by decide, show decide ((20 : Int) = 17) = false by decide, show decide ((20 : Int) = 18) = false by decide, show decide ((20 : Int) = 19) = false by decide, hz, d1, d2, d3, d4, decide_false, cond_false, h.2, shl1, xr _ (t64 _), sign_eq]
                exact ⟨⟨cut_ok _ _, h.1, sign_ok _ _, z1, sign_ok _ _, trivial, trivial⟩, rfl⟩
              · simp only [d1, d2, d3, d4, d5, decide_false, cond_false, if_false]; exact ⟨⟨cut_ok _ _, trivial⟩, trivial⟩
  · rw [decide_eq_false h8, if_neg h8]
    simp only [cond_false]
    have hk64 : n % 32 < 64 := Nat.lt_of_lt_of_le (Nat.mod_lt _ (by decide)) (by decide)
    generalize n % 32 = k at hk64 ⊢
    by_cases hz : k = 0
    · subst hz
      by_cases d1 : do_ = 16
      · simp only [d1, decide_true, cond_true, if_true]; exact ⟨⟨cut_ok _ _, trivial⟩, trivial⟩
      · by_cases d2 : do_ = 17
        · simp only [d2, decide_true, cond_true, if_true, show decide ((17 : Int) = 16) = false by decide, cond_false]; exact ⟨⟨cut_ok _ _, trivial⟩, trivial⟩
        · by_cases d3 : do_ = 18
          · simp only [d3, decide_true, cond_true, if_true, show decide ((18 : Int) = 16) = false by decide, show decide ((18 : Int) = 17) = false by decide, cond_false]; exact ⟨⟨cut_ok _ _, trivial⟩, trivial⟩
          · by_cases d4 : do_ = 19
            · simp only [d4, decide_true, cond_true, if_true, show decide ((19 : Int) = 16) = false by decide, show decide ((19 : Int) = 17) = false by decide, show decide ((19 : Int) = 18) = false by decide, cond_false]; exact ⟨⟨cut_ok _ _, trivial⟩, trivial⟩
            · by_cases d5 : do_ = 20
              · simp only [d5, decide_true, cond_true, if_true, show decide ((20 : Int) = 16) = false by decide, show decide ((20 : Int) = 17) = false by decide, show decide ((20 : Int) = 18) = false by decide, show decide ((20 : Int) = 19) = false by decide, cond_false]; exact ⟨⟨cut_ok _ _, trivial⟩, trivial⟩
              · simp only [d1, d2, d3, d4, d5, decide_false, cond_false, if_true]; exact ⟨⟨cut_ok _ _, trivial⟩, trivial⟩
    · have hp0 : 0 < k := by omega
      rw [if_neg hz]
      by_cases d1 : do_ = 16
      · subst d1
        have h := shl_eq hA k (by omega) hp0 was
        simp only [decide_true, cond_true, if_true, hz, decide_false, cond_false, h.2]
        exact ⟨⟨cut_ok _ _, h.1, trivial⟩, trivial⟩
      · by_cases d2 : do_ = 17
        · subst d2
          have h := shr_eq hA k (by omega) hp0 was
          simp only [decide_true, cond_true, if_true, if_false, show decide ((17 : Int) = 16) = false by decide, hz, d1, decide_false, cond_false, h.2]
          exact ⟨⟨cut_ok _ _, h.1, trivial⟩, trivial⟩
        · by_cases d3 : do_ = 18
          · subst d3
            have h := sar_eq (a := cut a w) (w := w) k hk64 hp0 was
            simp only [decide_true, cond_true, if_true, if_false, show decide ((18 : Int) = 16) = false by decide, show decide ((18 : Int) = 17) = false by decide, hz, d1, d2, decide_false, cond_false, h.2]
            exact ⟨⟨cut_ok _ _, h.1, trivial⟩, trivial⟩
          · by_cases d4 : do_ = 19
            · subst d4
              have h := rol k hk64
              simp only [decide_true, cond_true, if_true, if_false, show decide ((19 : Int) = 16) = false by decide, show decide ((19 : Int) = 17) = false by decide, show decide ((19 : Int) = 18) = false by decide, hz, d1, d2, d3, decide_false, cond_false, h.2, sign_eq, low_one]
              exact ⟨⟨cut_ok _ _, h.1, sign_ok _ _, trivial, trivial⟩, rfl⟩
            · by_cases d5 : do_ = 20
              · subst d5
                have h := ror k hk64
                simp only [decide_true, cond_true, if_true, if_false, show decide ((20 : Int) = 16) = false by decide, show decide ((20 : Int) = 17) = false by decide, show decide ((20 : Int) = 18) = false by decide, show decide ((20 : Int) = 19) = false by decide, hz, d1, d2, d3, d4, decide_false, cond_false, h.2, shl1, xr _ (t64 _), sign_eq]
                exact ⟨⟨cut_ok _ _, h.1, sign_ok _ _, z1, sign_ok _ _, trivial, trivial⟩, rfl⟩
              · simp only [d1, d2, d3, d4, d5, decide_false, cond_false, if_false]; exact ⟨⟨cut_ok _ _, trivial⟩, trivial⟩
end Go.Eng.RA
end
section
/- The plain law of AluShifts. -/
namespace Go.Eng.RA
open Go.Eng
set_option maxRecDepth 100000

theorem u8_nat {x : Int} (w : (Lit.int .u8 x).wf = true) : ∃ a : Nat, x = a ∧ a < 256 := by
  have : 0 ≤ x ∧ x ≤ 255 := by simpa [Lit.wf, IntKind.min, IntKind.max, IntKind.signed, IntKind.bits] using w
  exact ⟨x.toNat, by omega, by omega⟩

/-- What each deed makes of a word below its bound. -/
def valS (d w : Int) (a k : Nat) : Nat :=
  if d = 16 then shlN a w k else if d = 17 then a / 2 ^ k else if d = 18 then sarN w a k else if d = 19 then turn a k w else turn a (-(k : Int)) w

theorem sx_cut (a : Nat) (w : Int) : sx (cut a w) w = sx a w := by unfold sx; rw [cut_cut]

theorem sx_emod (a : Nat) (w : Int) : (sx a w % (PW w : Int)).toNat = cut a w := by
  have hw := wd_pos w
  have h := cut_lt a w
  have e2T : PW w = 2 * 2 ^ (8 * wd w - 1) := by unfold PW; rw [← Nat.pow_succ']; congr 1; omega
  unfold sx
  rw [e2T]
  have h' : cut a w < 2 * 2 ^ (8 * wd w - 1) := by rw [← e2T]; exact h
  generalize 2 ^ (8 * wd w - 1) = T at *
  split
  · rw [Int.emod_eq_of_lt (by omega) (by omega)]; omega
  · have : (cut a w : Int) - 2 * (T : Int) = (cut a w : Int) + ((2 * T : Nat) : Int) * (-1) := by push_cast; omega
    rw [this, Int.add_mul_emod_self_left, Int.emod_eq_of_lt (by omega) (by omega)]; omega

theorem sx_small (w : Int) (z : Int) (h : -((2 ^ (8 * wd w - 1) : Nat) : Int) ≤ z ∧ z < ((2 ^ (8 * wd w - 1) : Nat) : Int)) : sx ((z % (PW w : Int)).toNat) w = z := by
  have hw := wd_pos w
  have e2T : PW w = 2 * 2 ^ (8 * wd w - 1) := by unfold PW; rw [← Nat.pow_succ']; congr 1; omega
  have hp := PW_pos w
  have h1 := Int.emod_nonneg z (b := (PW w : Int)) (by omega)
  have h2 := Int.emod_lt_of_pos z (b := (PW w : Int)) (by omega)
  have hc : cut ((z % (PW w : Int)).toNat) w = (z % (PW w : Int)).toNat := cut_small (by unfold PW at *; omega)
  unfold sx
  rw [hc]
  rw [e2T] at h1 h2 ⊢
  generalize 2 ^ (8 * wd w - 1) = T at *
  by_cases hz : 0 ≤ z
  · rw [Int.emod_eq_of_lt hz (by push_cast; omega), if_pos (by omega)]; omega
  · have e : z % ((2 * T : Nat) : Int) = z + ((2 * T : Nat) : Int) := by
      have : z % ((2 * T : Nat) : Int) = (z + ((2 * T : Nat) : Int) * 1) % ((2 * T : Nat) : Int) := by rw [Int.add_mul_emod_self_left]
      rw [this, Int.mul_one, Int.emod_eq_of_lt (by push_cast; omega) (by push_cast; omega)]
    rw [e, if_neg (by push_cast; omega)]; push_cast; omega

theorem sx_lim (a : Nat) (w : Int) : -((2 ^ (8 * wd w - 1) : Nat) : Int) ≤ sx a w ∧ sx a w < ((2 ^ (8 * wd w - 1) : Nat) : Int) := by
  have h := cut_lt a w
  have hw := wd_pos w
  have e2T : 2 ^ (8 * wd w) = 2 * 2 ^ (8 * wd w - 1) := by rw [← Nat.pow_succ']; congr 1; omega
  unfold sx
  generalize 2 ^ (8 * wd w - 1) = T at *
  split <;> omega

theorem div_lim {z T : Int} {k : Nat} (h : -T ≤ z ∧ z < T) : -T ≤ z / 2 ^ k ∧ z / 2 ^ k < T := by
  have hp : (0 : Int) < 2 ^ k := Int.pow_pos (by decide)
  by_cases hz : 0 ≤ z
  · have h1 : 0 ≤ z / 2 ^ k := Int.ediv_nonneg hz (Int.le_of_lt hp)
    have h2 : z / 2 ^ k ≤ z := Int.ediv_le_self _ hz
    omega
  · have h1 : z / 2 ^ k < 0 := Int.ediv_neg_of_neg_of_pos (by omega) hp
    have h2 : z ≤ z / 2 ^ k := by
      rw [Int.le_ediv_iff_mul_le hp]
      have : z * 2 ^ k ≤ z * 1 := Int.mul_le_mul_of_nonpos_left (by omega) (by omega)
      omega
    omega

theorem sx_sar (w : Int) (a k : Nat) : sx (sarN w a k) w = sx a w / 2 ^ k := sx_small w _ (div_lim (sx_lim a w))

theorem sar_sar (w : Int) (a i j : Nat) : sarN w (sarN w a i) j = sarN w a (i + j) := by
  have : sx (sarN w a i) w / 2 ^ j = sx a w / 2 ^ (i + j) := by
    rw [sx_sar, Int.ediv_ediv_of_nonneg (Int.le_of_lt (Int.pow_pos (by decide))), Int.pow_add]
  unfold sarN at *
  rw [this]

theorem shl_shl (a : Nat) (w : Int) (i j : Nat) : shlN (shlN a w i) w j = shlN a w (i + j) := by
  unfold shlN
  rw [Nat.mod_mul_mod, Nat.mul_assoc, ← Nat.pow_add]

theorem turn_zero {a : Nat} {w : Int} (h : a < PW w) : turn a 0 w = a := by
  rw [turn_full a 0 w (by simp), cut_small h]

theorem valS_zero {d w : Int} {a : Nat} (h : a < PW w) : valS d w a 0 = a := by
  unfold valS
  split
  · unfold shlN; rw [Nat.pow_zero, Nat.mul_one, Nat.mod_eq_of_lt h]
  · split
    · rw [Nat.pow_zero, Nat.div_one]
    · split
      · unfold sarN; rw [Int.pow_zero, Int.ediv_one, sx_emod, cut_small h]
      · split
        · exact turn_zero h
        · exact turn_zero h

theorem valS_lt {d w : Int} {a k : Nat} (h : a < PW w) : valS d w a k < PW w := by
  unfold valS
  split
  · exact shlN_lt _ _ _
  · split
    · exact Nat.lt_of_le_of_lt (Nat.div_le_self _ _) h
    · split
      · exact sarN_lt _ _ _
      · split <;> exact turn_lt _ _ _

theorem valS_valS {d w : Int} {a i j : Nat} : valS d w (valS d w a i) j = valS d w a (i + j) := by
  unfold valS
  by_cases d1 : d = 16
  · simp only [d1, if_true]; exact shl_shl a w i j
  · by_cases d2 : d = 17
    · simp only [d2, if_true, if_neg (show ¬ (17 : Int) = 16 by decide)]; rw [Nat.div_div_eq_div_mul, ← Nat.pow_add]
    · by_cases d3 : d = 18
      · simp only [d3, if_true, if_neg (show ¬ (18 : Int) = 16 by decide), if_neg (show ¬ (18 : Int) = 17 by decide)]; exact sar_sar w a i j
      · by_cases d4 : d = 19
        · simp only [d4, if_true, if_neg (show ¬ (19 : Int) = 16 by decide), if_neg (show ¬ (19 : Int) = 17 by decide), if_neg (show ¬ (19 : Int) = 18 by decide)]
          exact turn_turn a i j ((i + j : Nat) : Int) w (by push_cast; rfl)
        · simp only [d1, d2, d3, d4, if_false]
          exact turn_turn a (-(i : Int)) (-(j : Int)) (-((i + j : Nat) : Int)) w (by congr 1; push_cast; omega)

/-- The carry that each deed leaves. -/
def carS (d w : Int) (a k : Nat) : Bool :=
  if d = 16 then sg (shlN a w (k - 1)) w else if d = 17 then decide (a / 2 ^ (k - 1) % 2 = 1) else if d = 18 then decide (sx a w / 2 ^ (k - 1) % 2 = 1)
  else if d = 19 then decide (valS d w a k % 2 = 1) else sg (valS d w a k) w

theorem carS_carS {d w : Int} {a i j : Nat} (hj : 0 < j) : carS d w (valS d w a i) j = carS d w a (i + j) := by
  have e : i + j - 1 = i + (j - 1) := by omega
  unfold carS
  rw [valS_valS, e]
  by_cases d1 : d = 16
  · simp only [d1, if_true]
    have : valS 16 w a i = shlN a w i := by unfold valS; rw [if_pos rfl]
    rw [this, shl_shl]
  · by_cases d2 : d = 17
    · simp only [d2, if_true, if_neg (show ¬ (17 : Int) = 16 by decide)]
      have : valS 17 w a i = a / 2 ^ i := by unfold valS; rw [if_neg (by decide), if_pos rfl]
      rw [this, Nat.div_div_eq_div_mul, ← Nat.pow_add]
    · by_cases d3 : d = 18
      · simp only [d3, if_true, if_neg (show ¬ (18 : Int) = 16 by decide), if_neg (show ¬ (18 : Int) = 17 by decide)]
        have : valS 18 w a i = sarN w a i := by unfold valS; rw [if_neg (by decide), if_neg (by decide), if_pos rfl]
        rw [this, sx_sar, Int.ediv_ediv_of_nonneg (Int.le_of_lt (Int.pow_pos (by decide))), Int.pow_add]
      · simp only [d1, d2, d3, if_false]

theorem shiftF_val {d w : Int} (hd : 16 ≤ d ∧ d ≤ 20) (a n : Nat) (was : Fl) : (shiftF d w a n was).1 = ((valS d w (cut a w) (cnt w n) : Nat) : Int) := by
  have hA : cut a w < PW w := cut_lt a w
  unfold shiftF
  by_cases hz : cnt w n = 0
  · rw [if_pos hz, hz, valS_zero hA]
  · rw [if_neg hz]
    have hc : d = 16 ∨ d = 17 ∨ d = 18 ∨ d = 19 ∨ d = 20 := by omega
    rcases hc with rfl | rfl | rfl | rfl | rfl <;> rfl

theorem shiftF_car {d w : Int} (hd : 16 ≤ d ∧ d ≤ 20) (a n : Nat) (was : Fl) (hz : cnt w n ≠ 0) : (shiftF d w a n was).2.1 = carS d w (cut a w) (cnt w n) := by
  unfold shiftF
  rw [if_neg hz]
  have hc : d = 16 ∨ d = 17 ∨ d = 18 ∨ d = 19 ∨ d = 20 := by omega
  rcases hc with rfl | rfl | rfl | rfl | rfl <;> rfl

/-- Zero and sign. -/
def zsS (d w : Int) (r : Nat) (was : Fl) : Bool × Bool := if d ≤ 18 then (decide (cut r w = 0), sg r w) else (was.2.1, was.2.2.1)

theorem shiftF_zs {d w : Int} (hd : 16 ≤ d ∧ d ≤ 20) (a n : Nat) (was : Fl) (hz : cnt w n ≠ 0) :
    (shiftF d w a n was).2.2.1 = (zsS d w (valS d w (cut a w) (cnt w n)) was).1 ∧ (shiftF d w a n was).2.2.2.1 = (zsS d w (valS d w (cut a w) (cnt w n)) was).2 := by
  unfold shiftF
  rw [if_neg hz]
  have hc : d = 16 ∨ d = 17 ∨ d = 18 ∨ d = 19 ∨ d = 20 := by omega
  rcases hc with rfl | rfl | rfl | rfl | rfl <;> exact ⟨rfl, rfl⟩

theorem five (i : Nat) (hi : i < 5) : rdc (.int .u8) ((((((List.replicate 5 (0 : Int)).set 0 16).set 1 17).set 2 18).set 3 19).set 4 20) (0 + ((i : Int)).toNat) = ((16 + i : Nat) : Int) := by
  have hc : i = 0 ∨ i = 1 ∨ i = 2 ∨ i = 3 ∨ i = 4 := by omega
  rcases hc with rfl | rfl | rfl | rfl | rfl <;> rfl

theorem shifts_from (wide : Bool) (a n m : Nat) (was : Fl) (ha : a < 18446744073709551616) (w : Int) (all : Nat) (hw : (w = 4 ∧ all = 32) ∨ (w = 8 ∧ all = 64)) (hnm : n + m < all) :
    ∀ (d i : Nat), 5 = i + d → Ends (step9 (wide, ((a : Int), ((n : Int), ((m : Int), was))))) true
      (step9 (wide, ((a : Int), ((n : Int), ((m : Int), was)))) (.h0 w (5 : Int) (i : Int) ((((((List.replicate 5 (0 : Int)).set 0 16).set 1 17).set 2 18).set 3 19).set 4 20))) := by
  have hall : all = 8 * wd w ∧ all ≤ 64 := by rcases hw with ⟨rfl, rfl⟩ | ⟨rfl, rfl⟩ <;> decide
  have hcnt : ∀ k, k < all → cnt w k = k := by
    intro k hk
    unfold cnt
    rcases hw with ⟨rfl, rfl⟩ | ⟨rfl, rfl⟩
    · rw [if_neg (by decide), Nat.mod_eq_of_lt hk]
    · rw [if_pos (by decide), Nat.mod_eq_of_lt hk]
  have hwk := wakes13
  have hA : cut a w < PW w := cut_lt a w
  have hnmu : iadd .u8 (n : Int) (m : Int) = ((n + m : Nat) : Int) := by unfold iadd; rw [wrap_u8]; omega
  have ilt0 : ∀ k : Nat, ilt 0 (k : Int) = decide (0 < k) := fun k => ilt_nat 0 k
  have ine_n : ∀ p : Int, (ine p p == false) = true := fun p => by unfold ine; simp
  have bb : ∀ p : Bool, ((!(p == p)) == false) = true := fun p => by cases p <;> rfl
  have bb2 : ∀ p : Bool, (!(p == p)) = false := fun p => by cases p <;> rfl
  have et : ∀ p : Bool, (p == true) = p := fun p => by cases p <;> rfl
  intro d
  induction d with
  | zero =>
    intro i hi
    obtain rfl : i = 5 := by omega
    have hc : ilt ((5 : Nat) : Int) 5 = false := by decide
    have hs := shift_eq ha (n := n) (by omega) 16 w was
    have hr := shift_eq ha (n := n) (by omega) 17 w was
    have hl := shift_eq ha (n := n) (by omega) 19 w was
    have vs : (shiftF 16 w a n was).1 = ((shlN (cut a w) w n : Nat) : Int) := by rw [shiftF_val (by decide), hcnt n (by omega)]; rfl
    have vr : (shiftF 17 w a n was).1 = ((cut a w / 2 ^ n : Nat) : Int) := by rw [shiftF_val (by decide), hcnt n (by omega)]; rfl
    have vl : (shiftF 19 w a n was).1 = ((turn (cut a w) n w : Nat) : Int) := by rw [shiftF_val (by decide), hcnt n (by omega)]; rfl
    have tl := turn_lt (cut a w) n w
    have hb := shift_eq (a := turn (cut a w) n w) (Nat.lt_of_lt_of_le tl (pw_le w)) (n := n) (by omega) 20 w was
    have vb : (shiftF 20 w (turn (cut a w) n w) n was).1 = ((cut a w : Nat) : Int) := by
      rw [shiftF_val (by decide), hcnt n (by omega), cut_small tl]
      have : valS 20 w (turn (cut a w) n w) n = turn (turn (cut a w) n w) (-(n : Int)) w := rfl
      rw [this, turn_turn (cut a w) n (-(n : Int)) 0 w (by rw [Int.add_right_neg]), turn_zero hA]
    have p64 : 2 ^ n < 18446744073709551616 := pow_lt64 (by omega)
    have e31 : iconv .u64 (n : Int) = (n : Int) := u64_idx (by omega)
    have hm := mul_eq ha p64 w
    have hdv := div_eq (hi := 0) (lo := a) (d := 2 ^ n) (by decide) ha p64 w
    have hpw : 2 ^ n < PW w := Nat.pow_lt_pow_right (by decide) (by omega)
    have ep : cut (2 ^ n) w = 2 ^ n := cut_small hpw
    have ec0 : cut 0 w = 0 := cut_small (PW_pos w)
    have em : (mulF w a (2 ^ n)).1 = ((shlN (cut a w) w n : Nat) : Int) := by
      change ((cut a w * cut (2 ^ n) w % 2 ^ (8 * wd w) : Nat) : Int) = _
      rw [ep]; rfl
    have ed : (divF w 0 a (2 ^ n)).1 = ((cut a w / 2 ^ n : Nat) : Int) := by
      have hpos : 0 < 2 ^ n := Nat.pow_pos (by decide)
      unfold divF
      rw [ep, ec0, if_neg (by omega), Nat.zero_mul, Nat.zero_add]
    have k0 : ((0 : Nat) : Int) = 0 := rfl
    rw [k0] at hdv
    have hs' : fn30 (20, (w, (((turn (cut a w) n w : Nat) : Int), ((n : Int), was)))) = _ := hb.2
    simp only [step9, hc, hs.2, hr.2, hl.2, vs, vr, vl, e31, one_shl (i := n) (by omega), hm.2, em, hdv.2, ed, hs', vb, rcut_eq ha, ieq_self]
    refine .no _ _ (.need _ _ hs.1 (.need _ _ hr.1 (.need _ _ (by omega) (.need _ _ hm.1 (.need _ _ (by omega) (.need _ _ hdv.1 (.need _ _ hl.1 (.need _ _ hb.1 (.yes _ _ (.yes _ _ (.need _ _ (rcut_ok _ _) (.yes _ _ (.need _ _ hwk.1 ?_)))))))))))))
    rw [hwk.2]; exact .ret
  | succ d ih =>
    intro i hi
    have hc : ilt (i : Int) 5 = true := by simp [ilt]; omega
    have hd : (16 : Int) ≤ ((16 + i : Nat) : Int) ∧ ((16 + i : Nat) : Int) ≤ 20 := by omega
    have h1 := shift_eq ha (n := n) (by omega) ((16 + i : Nat) : Int) w was
    have v1 : (shiftF ((16 + i : Nat) : Int) w a n was).1 = ((valS ((16 + i : Nat) : Int) w (cut a w) n : Nat) : Int) := by rw [shiftF_val hd, hcnt n (by omega)]
    have hlt := valS_lt (d := ((16 + i : Nat) : Int)) (k := n) hA
    have h2 := shift_eq (a := valS ((16 + i : Nat) : Int) w (cut a w) n) (Nat.lt_of_lt_of_le hlt (pw_le w)) (n := m) (by omega) ((16 + i : Nat) : Int) w was
    have h3 := shift_eq ha (n := n + m) (by omega) ((16 + i : Nat) : Int) w was
    have v2 : (shiftF ((16 + i : Nat) : Int) w (valS ((16 + i : Nat) : Int) w (cut a w) n) m was).1 = ((valS ((16 + i : Nat) : Int) w (cut a w) (n + m) : Nat) : Int) := by
      rw [shiftF_val hd, hcnt m (by omega), cut_small hlt, valS_valS]
    have v3 : (shiftF ((16 + i : Nat) : Int) w a (n + m) was).1 = ((valS ((16 + i : Nat) : Int) w (cut a w) (n + m) : Nat) : Int) := by rw [shiftF_val hd, hcnt (n + m) (by omega)]
    have h2p : pre30 (((16 + i : Nat) : Int), (w, ((shiftF ((16 + i : Nat) : Int) w a n was).1, ((m : Int), was)))) := by rw [v1]; exact h2.1
    have h2e : fn30 (((16 + i : Nat) : Int), (w, (((valS ((16 + i : Nat) : Int) w (cut a w) n : Nat) : Int), ((m : Int), was)))) = _ := h2.2
    have nxt := ih (i + 1) (by omega)
    have f5 := five i (by omega)
    generalize hL : ((((((List.replicate 5 (0 : Int)).set 0 16).set 1 17).set 2 18).set 3 19).set 4 20) = L at *
    simp only [step9, hc, f5, hnmu, h1.2, v1, h2e, h3.2, v2, v3, ine_n, ilt0, et, next_i64 (i := i) (by omega)]
    refine .yes _ _ (.need _ _ (by omega) (.need _ _ (by omega) (.need _ _ (by omega) (.need _ _ h1.1 (.need _ _ h2.1 (.need _ _ h3.1 (.yes _ _ ?_)))))))
    by_cases hm0 : 0 < m
    · rw [decide_eq_true hm0]
      refine .yes _ _ ?_
      by_cases hn0 : 0 < n
      · rw [decide_eq_true hn0]
        refine .yes _ _ ?_
        have c2 : (shiftF ((16 + i : Nat) : Int) w (valS ((16 + i : Nat) : Int) w (cut a w) n) m was).2.1 = carS ((16 + i : Nat) : Int) w (cut a w) (n + m) := by
          rw [shiftF_car hd _ _ _ (by rw [hcnt m (by omega)]; omega), hcnt m (by omega), cut_small hlt, carS_carS hm0]
        have c3 : (shiftF ((16 + i : Nat) : Int) w a (n + m) was).2.1 = carS ((16 + i : Nat) : Int) w (cut a w) (n + m) := by
          rw [shiftF_car hd _ _ _ (by rw [hcnt (n + m) (by omega)]; omega), hcnt (n + m) (by omega)]
        have z2 := shiftF_zs hd (valS ((16 + i : Nat) : Int) w (cut a w) n) m was (by rw [hcnt m (by omega)]; omega)
        have z3 := shiftF_zs hd a (n + m) was (by rw [hcnt (n + m) (by omega)]; omega)
        rw [hcnt m (by omega), cut_small hlt, valS_valS] at z2
        rw [hcnt (n + m) (by omega)] at z3
        rw [c2, c3, z2.1, z2.2, z3.1, z3.2, bb, bb, bb2]
        exact .yes _ _ (.yes _ _ (.no _ _ (.jump _ nxt)))
      · rw [decide_eq_false hn0]
        exact .no _ _ (.jump _ nxt)
    · rw [decide_eq_false hm0]
      exact .no _ _ (.jump _ nxt)

theorem aluShifts (x0 : Bool) (x1 x2 x3 : Int) (was : Fl) (w1 : (Lit.int .u64 x1).wf = true) (w2 : (Lit.int .u8 x2).wf = true) (w3 : (Lit.int .u8 x3).wf = true) :
    Ends (step9 (x0, (x1, (x2, (x3, was))))) true (tree9 (x0, (x1, (x2, (x3, was))))) := by
  obtain ⟨a, rfl, ha⟩ := u64_nat w1
  obtain ⟨n, rfl, hn⟩ := u8_nat w2
  obtain ⟨m, rfl, hm⟩ := u8_nat w3
  have hwk := wakes13
  have cv : ∀ k : Nat, k < 256 → iconv .i64 (k : Int) = (k : Int) := fun k hk => by unfold iconv; exact i64_small (by omega) (by omega)
  have ad : iadd .i64 (n : Int) (m : Int) = ((n + m : Nat) : Int) := by unfold iadd; rw [i64_small (by omega) (by omega)]; omega
  have l64 : ile 64 ((n + m : Nat) : Int) = decide (64 ≤ n + m) := ile_nat 64 _
  have l32 : ile 32 ((n + m : Nat) : Int) = decide (32 ≤ n + m) := ile_nat 32 _
  unfold tree9
  simp only [cv n hn, cv m hm, ad, l64, l32]
  cases x0 with
  | true =>
    refine .yes _ _ ?_
    by_cases h : 64 ≤ n + m
    · rw [decide_eq_true h]
      refine .yes _ _ (.need _ _ hwk.1 ?_)
      rw [hwk.2]; exact .ret
    · rw [decide_eq_false h]
      exact .no _ _ (.need _ _ (by decide) (.need _ _ (by decide) (.need _ _ (by decide) (.need _ _ (by decide) (.need _ _ (by decide) (.jump _ (shifts_from true a n m was ha 8 64 (.inr ⟨rfl, rfl⟩) (by omega) 5 0 rfl)))))))
  | false =>
    refine .no _ _ ?_
    by_cases h : 32 ≤ n + m
    · rw [decide_eq_true h]
      refine .yes _ _ (.need _ _ hwk.1 ?_)
      rw [hwk.2]; exact .ret
    · rw [decide_eq_false h]
      exact .no _ _ (.need _ _ (by decide) (.need _ _ (by decide) (.need _ _ (by decide) (.need _ _ (by decide) (.need _ _ (by decide) (.jump _ (shifts_from false a n m was ha 4 32 (.inl ⟨rfl, rfl⟩) (by omega) 5 0 rfl)))))))

abbrev domShifts : TC := .st .bool (.st (.int .u64) (.st (.int .u8) (.st (.int .u8) (.st1 (.st .bool (.st .bool (.st .bool (.st .bool (.st1 .bool)))))))))

theorem aluShifts_plain (x : domShifts.den) (w : domShifts.wf x) : pre9 x ∧ fn9 x = true := by
  obtain ⟨x0, x1, x2, x3, was⟩ := x
  have h := aluShifts x0 x1 x2 x3 was w.2.1 w.2.2.1 w.2.2.2.1
  exact ⟨⟨_, h⟩, endVal_eq h⟩
end Go.Eng.RA
end
section
/- Plain laws: more of the document's own functions: rests, parities, turns, flags, sums, products. -/
namespace Go.Eng.RA
open Go.Eng
set_option maxRecDepth 100000

theorem small_i64 {z : Int} (h : -1000 ≤ z ∧ z ≤ 1000) : IntKind.wrap .i64 z = z := i64_small (by omega) (by omega)

theorem rsub_ends {a b : Nat} (c : Bool) (n : Int) : Ends (step61 ((a : Int), ((b : Int), (c, n)))) (subF a b c n) (tree61 ((a : Int), ((b : Int), (c, n)))) := by
  have hw := wd_pos n
  have hc1 : c.toNat ≤ 1 := by cases c <;> decide
  have go : ∀ (d i k s : Nat), 8 * wd n = i + d → k ≤ 1 → s < 2 ^ i → a % 2 ^ i + 2 ^ i * k = b % 2 ^ i + c.toNat + s →
      Ends (step61 ((a : Int), ((b : Int), (c, n)))) (subF a b c n) (step61 ((a : Int), ((b : Int), (c, n))) (.h0 (k : Int) (s : Int) (i : Int))) := by
    intro d
    induction d with
    | zero =>
      intro i k s hi hk hs he
      have hc : ilt (i : Int) ((8 * wd n : Nat) : Int) = false := by simp [ilt]; omega
      have hi' : i = 8 * wd n := by omega
      subst hi'
      have hP := PW_pos n
      have hA := cut_lt a n
      have hB := cut_lt b n
      have he' : cut a n + PW n * k = cut b n + c.toNat + s := he
      have hs' : s = cut (rest a b c n) n := by
        rw [rest_mod]
        have hk2 : k = 0 ∨ k = 1 := by omega
        unfold PW at *
        rcases hk2 with rfl | rfl
        · rw [show cut a n + 2 * 2 ^ (8 * wd n) - cut b n - c.toNat = s + 2 ^ (8 * wd n) + 2 ^ (8 * wd n) by omega, Nat.add_mod_right, Nat.add_mod_right, Nat.mod_eq_of_lt hs]
        · rw [show cut a n + 2 * 2 ^ (8 * wd n) - cut b n - c.toNat = s + 2 ^ (8 * wd n) by omega, Nat.add_mod_right, Nat.mod_eq_of_lt hs]
      have hk' : ieq (k : Int) 1 = decide (cut a n < cut b n + c.toNat) := by
        unfold ieq
        have : k = 0 ∨ k = 1 := by omega
        unfold PW at *
        rcases this with rfl | rfl
        · rw [decide_eq_false (by omega)]; rfl
        · rw [decide_eq_true (by omega)]; rfl
      have hov : (subF a b c n).2.2 = (((!(sg a n == sg b n)) == true) && !(sg s n == sg a n)) := by
        change sg ((cut a n ^^^ cut b n) &&& (cut a n ^^^ cut (rest a b c n) n)) n = _
        rw [sg_bit, Nat.testBit_and, Nat.testBit_xor, Nat.testBit_xor, ← sg_bit, ← sg_bit, ← sg_bit, sg_cut a, sg_cut b, ← hs']
        cases sg a n <;> cases sg b n <;> cases sg s n <;> rfl
      have hres : subF a b c n = ((s : Int), (ieq (k : Int) 1, (((!(sg a n == sg b n)) == true) && !(sg s n == sg a n)))) := by
        rw [← hov, hk', hs']; rfl
      simp only [step61, rbits, hc, rsign_eq]
      refine .need _ _ (rwide_ok n) (.no _ _ (.need _ _ (rsign_ok _ _) (.need _ _ (rsign_ok _ _) ?_)))
      rw [hres]
      cases hq : ((!(sg a n == sg b n)) == true)
      · exact .no _ _ .ret
      · exact .yes _ _ (.need _ _ (rsign_ok _ _) (.need _ _ (rsign_ok _ _) (by rw [Bool.true_and]; exact .ret)))
    | succ d ih =>
      intro i k s hi hk hs he
      have hc : ilt (i : Int) ((8 * wd n : Nat) : Int) = true := by simp [ilt]; omega
      have hp : 0 < 2 ^ i := Nat.pow_pos (by decide)
      have h64 := pow_lt64 (i := i) (by omega)
      have hs64 : 2 ^ (i + 1) ≤ 18446744073709551616 := Nat.le_of_lt_add_one (Nat.lt_of_le_of_lt (Nat.pow_le_pow_right (by decide) (show i + 1 ≤ 64 by omega)) (by decide))
      have hp2 : 2 ^ (i + 1) = 2 ^ i * 2 := Nat.pow_succ 2 i
      have hx : a / 2 ^ i % 2 < 2 := Nat.mod_lt _ (by decide)
      have hy : b / 2 ^ i % 2 < 2 := Nat.mod_lt _ (by decide)
      have ea := mod_step a i
      have eb := mod_step b i
      generalize ha' : a / 2 ^ i % 2 = u at *
      generalize hb' : b / 2 ^ i % 2 = v at *
      have cu : iconv .i64 (u : Int) = (u : Int) := by unfold iconv; exact small_i64 (by omega)
      have cv : iconv .i64 (v : Int) = (v : Int) := by unfold iconv; exact small_i64 (by omega)
      have e1 : isub .i64 (isub .i64 (u : Int) (v : Int)) (k : Int) = (u : Int) - v - k := by
        unfold isub; rw [small_i64 (z := (u : Int) - v) (by omega), small_i64 (by omega)]
      have put : ∀ t : Nat, t ≤ 1 → ior .u64 (s : Int) (ishl .u64 (iconv .u64 (t : Int)) (i : Int)) = ((s + 2 ^ i * t : Nat) : Int) := by
        intro t ht
        have ct : iconv .u64 (t : Int) = (t : Int) := by unfold iconv; rw [wrap_u64]; omega
        have hm : t * 2 ^ i < 18446744073709551616 := by
          have : t * 2 ^ i ≤ 1 * 2 ^ i := Nat.mul_le_mul_right _ ht
          omega
        rw [ct, ishl_u64 (by omega), Nat.mod_eq_of_lt hm, ior_u64 (by omega) hm, Nat.mul_comm t, Nat.or_comm, ← Nat.two_pow_add_eq_or_of_lt hs]
        congr 1; omega
      have l0 : ∀ z : Int, ilt z 0 = decide (z < 0) := fun _ => rfl
      simp only [step61, rbits, hc, u64_idx (i := i) (by omega), bit_u64 _ i (by omega), ha', hb', cu, cv, e1, l0, next_i64 (i := i) (by omega)]
      refine .need _ _ (rwide_ok n) (.yes _ _ (.need _ _ (by omega) (.need _ _ (by omega) ?_)))
      have fin : ∀ (t k' : Nat), t ≤ 1 → k' ≤ 1 → (u : Int) - v - k + 2 * k' = t →
          Ends (step61 ((a : Int), ((b : Int), (c, n)))) (subF a b c n) (step61 ((a : Int), ((b : Int), (c, n))) (.h0 (k' : Int) ((s + 2 ^ i * t : Nat) : Int) ((i + 1 : Nat) : Int))) := by
        intro t k' ht hk' htt
        refine ih (i + 1) k' (s + 2 ^ i * t) (by omega) hk' ?_ ?_
        · have : 2 ^ i * t ≤ 2 ^ i * 1 := Nat.mul_le_mul_left _ ht
          omega
        · rw [ea, eb, hp2, Nat.mul_assoc]
          have hcomb : 2 ^ i * (u + 2 * k') = 2 ^ i * (v + k + t) := by congr 1; omega
          rw [Nat.mul_add, Nat.mul_add, Nat.mul_add] at hcomb
          omega
      by_cases hneg : (u : Int) - v - k < 0
      · rw [decide_eq_true hneg]
        obtain ⟨t, ht⟩ : ∃ t : Nat, (u : Int) - v - k + 2 = t := ⟨((u : Int) - v - k + 2).toNat, by omega⟩
        have e2 : iadd .i64 ((u : Int) - v - k) 2 = (t : Int) := by unfold iadd; rw [small_i64 (by omega)]; exact ht
        rw [e2, put t (by omega)]
        refine .yes _ _ (.need _ _ (by omega) (.jump _ ?_))
        exact fin t 1 (by omega) (by omega) (by omega)
      · rw [decide_eq_false hneg]
        obtain ⟨t, ht⟩ : ∃ t : Nat, (u : Int) - v - k = t := ⟨((u : Int) - v - k).toNat, by omega⟩
        rw [ht, put t (by omega)]
        refine .no _ _ (.need _ _ (by omega) (.jump _ ?_))
        exact fin t 0 (by omega) (by omega) (by omega)
  refine .need _ _ (rone_ok c) (.jump _ ?_)
  have e0 : iconv .i64 (fn57 c) = (c.toNat : Int) := by rw [rone_eq]; unfold iconv; exact small_i64 (by omega)
  rw [e0]
  have := go (8 * wd n) 0 c.toNat 0 (by omega) hc1 (by decide) (by simp [Nat.mod_one])
  exact this

theorem rsub_ok (a b : Nat) (c : Bool) (n : Int) : pre61 ((a : Int), ((b : Int), (c, n))) := ⟨_, rsub_ends c n⟩
theorem rsub_eq (a b : Nat) (c : Bool) (n : Int) : fn61 ((a : Int), ((b : Int), (c, n))) = subF a b c n := endVal_eq (rsub_ends c n)

theorem pc8 : ∀ b < 256, decide (pc b 8 % 2 = 0) = !par8 b := by decide +kernel

theorem rpar_ends (a : Nat) : Ends (step62 (a : Int)) (!par8 (a % 256)) (tree62 (a : Int)) := by
  have go : ∀ (d i : Nat), 8 = i + d → Ends (step62 (a : Int)) (!par8 (a % 256)) (step62 (a : Int) (.h0 (pc a i : Int) (i : Int))) := by
    intro d
    induction d with
    | zero =>
      intro i hi
      obtain rfl : i = 8 := by omega
      have hc : ilt ((8 : Nat) : Int) 8 = false := by decide
      have e : ieq (irem .i64 (pc a 8 : Int) 2) 0 = !par8 (a % 256) := by
        have h1 : irem .i64 (pc a 8 : Int) 2 = ((pc a 8 % 2 : Nat) : Int) := irem_u64 (a := pc a 8) (b := 2)
        rw [h1, ieq_zero, ← pc8 _ (Nat.mod_lt _ (by decide)), show (256 : Nat) = 2 ^ 8 from rfl, pc_mod a 8 8 (Nat.le_refl _)]
      simp only [step62, hc, e]
      exact .no _ _ (.need _ _ (by decide) .ret)
    | succ d ih =>
      intro i hi
      have hc : ilt (i : Int) 8 = true := by simp [ilt]; omega
      have hb : a / 2 ^ i % 2 < 2 := Nat.mod_lt _ (by decide)
      have hle := pc_le a i
      have e : iadd .i64 (pc a i : Int) (iconv .i64 (iand .u64 (ishr .u64 (a : Int) (iconv .u64 (i : Int))) 1)) = (pc a (i + 1) : Int) := by
        rw [bit_at a i (by omega), pc]; unfold iadd; rw [small_i64 (by omega)]; omega
      simp only [step62, hc, e, next_i64 (i := i) (by omega)]
      exact .yes _ _ (.need _ _ (by rw [u64_idx (by omega)]; omega) (.jump _ (ih (i + 1) (by omega))))
  exact .jump _ (go 8 0 rfl)

theorem rpar_ok (a : Nat) : pre62 (a : Int) := ⟨_, rpar_ends a⟩
theorem rpar_eq (a : Nat) : fn62 (a : Int) = !par8 (a % 256) := endVal_eq (rpar_ends a)

theorem rturn_ends {a : Nat} (ha : a < 18446744073709551616) (n w : Int) : Ends (step64 ((a : Int), (n, w))) ((turn a n w : Nat) : Int) (tree64 ((a : Int), (n, w))) := by
  have hw := wd_pos w
  have hA := cut_lt a w
  have ht := tn_lt n w
  have go : ∀ (d i : Nat), tn n w = i + d → Ends (step64 ((a : Int), (n, w))) ((turn a n w : Nat) : Int) (step64 ((a : Int), (n, w)) (.h0 ((rot (8 * wd w) (cut a w) i : Nat) : Int) (tn n w : Int) ((8 * wd w : Nat) : Int) (i : Int))) := by
    intro d
    induction d with
    | zero =>
      intro i hi
      have hc : ilt (i : Int) (tn n w : Int) = false := by simp [ilt]; omega
      simp only [step64, hc]
      refine .no _ _ ?_
      rw [show i = tn n w by omega]; exact .ret
    | succ d ih =>
      intro i hi
      have hc : ilt (i : Int) (tn n w : Int) = true := by simp [ilt]; omega
      have hr := rot_lt hA (show i ≤ 8 * wd w by omega)
      have hp := pw_le w
      have e1 : iconv .u64 (isub .i64 ((8 * wd w : Nat) : Int) 1) = ((8 * wd w - 1 : Nat) : Int) := by
        unfold isub iconv; rw [i64_small (by omega) (by omega), wrap_u64]; omega
      have e2 : ishl .u64 ((rot (8 * wd w) (cut a w) i : Nat) : Int) 1 = ((rot (8 * wd w) (cut a w) i * 2 ^ 1 % 18446744073709551616 : Nat) : Int) := ishl_u64 (k := 1) (by decide)
      have htop : rot (8 * wd w) (cut a w) i / 2 ^ (8 * wd w - 1) < 2 := by
        rw [Nat.div_lt_iff_lt_mul (Nat.pow_pos (by decide)), ← Nat.pow_succ']
        rw [Nat.succ_eq_add_one, show 8 * wd w - 1 + 1 = 8 * wd w by omega]; exact hr
      have e3 : iand .u64 (ishr .u64 ((rot (8 * wd w) (cut a w) i : Nat) : Int) ((8 * wd w - 1 : Nat) : Int)) 1 = ((rot (8 * wd w) (cut a w) i / 2 ^ (8 * wd w - 1) : Nat) : Int) := by
        rw [bit_u64 _ _ (by omega), Nat.mod_eq_of_lt htop]
      have l1 : rot (8 * wd w) (cut a w) i * 2 ^ 1 % 18446744073709551616 < 18446744073709551616 := Nat.mod_lt _ (by decide)
      have e4 : fn21 (ior .u64 ((rot (8 * wd w) (cut a w) i * 2 ^ 1 % 18446744073709551616 : Nat) : Int) ((rot (8 * wd w) (cut a w) i / 2 ^ (8 * wd w - 1) : Nat) : Int), w) = ((rot (8 * wd w) (cut a w) (i + 1) : Nat) : Int) := by
        rw [ior_u64 l1 (by omega), rcut_eq (Nat.or_lt_two_pow (n := 64) l1 (by omega))]
        unfold cut
        have := rot_or (W := 8 * wd w) (k := 1) hr (by omega) (by omega)
        unfold cut at this
        rw [this]
        have hrr := rot_rot (W := 8 * wd w) (j := i) (k := 1) hA (by omega) (by omega)
        unfold cut at hrr
        rw [hrr, Nat.mod_eq_of_lt (show i + 1 < 8 * wd w by omega)]
      simp only [step64, hc, e1, e2, e3, e4, next_i64 (i := i) (by omega)]
      exact .yes _ _ (.need _ _ (by omega) (.need _ _ (by decide) (.need _ _ (rcut_ok _ _) (.jump _ (ih (i + 1) (by omega))))))
  have hm : irem .i64 (iadd .i64 (irem .i64 n ((8 * wd w : Nat) : Int)) ((8 * wd w : Nat) : Int)) ((8 * wd w : Nat) : Int) = (tn n w : Int) := modW (by omega) (by omega)
  unfold tree64
  simp only [rbits, hm, rcut_eq ha]
  refine .need _ _ (rwide_ok w) (.need _ _ (by omega) (.need _ _ (by omega) (.need _ _ (rcut_ok _ _) (.jump _ ?_))))
  have := go (tn n w) 0 (by omega)
  rw [rot_zero hA] at this
  exact this

theorem rturn_ok {a : Nat} (ha : a < 18446744073709551616) (n w : Int) : pre64 ((a : Int), (n, w)) := ⟨_, rturn_ends ha n w⟩
theorem rturn_eq {a : Nat} (ha : a < 18446744073709551616) (n w : Int) : fn64 ((a : Int), (n, w)) = ((turn a n w : Nat) : Int) := endVal_eq (rturn_ends ha n w)

theorem rlogic_eq {r : Nat} (hr : r < 18446744073709551616) (w : Int) : pre35 (w, (r : Int)) ∧ fn35 (w, (r : Int)) = flagsOf r w false false := by
  refine ⟨⟨rcut_ok _ _, rsign_ok _ _, rpar_ok r, trivial⟩, ?_⟩
  change (false, (ieq (fn21 ((r : Int), w)) 0, (fn59 ((r : Int), w), (false, fn62 (r : Int))))) = _
  rw [rcut_eq hr, rsign_eq, rpar_eq, ieq_zero]
  rfl

theorem rAdd_eq {a b : Nat} (w : Int) (c : Bool) :
    pre32 (w, ((a : Int), ((b : Int), c))) ∧ fn32 (w, ((a : Int), ((b : Int), c))) = aaddF w a b c := by
  have ht := rlogic_eq (cut_64 (sum a b c w) w) w
  have e : (addF a b c w).1 = ((cut (sum a b c w) w : Nat) : Int) := rfl
  unfold pre32 fn32 tree32 Tr.ok
  simp only [radd_eq, e, ht.2, Tr.wp, Tr.val]
  exact ⟨⟨radd_ok _ _ _ _, ht.1, trivial⟩, rfl⟩

theorem rSub_eq {a b : Nat} (w : Int) (c : Bool) :
    pre33 (w, ((a : Int), ((b : Int), c))) ∧ fn33 (w, ((a : Int), ((b : Int), c))) = asubF w a b c := by
  have ht := rlogic_eq (cut_64 (rest a b c w) w) w
  have e : (subF a b c w).1 = ((cut (rest a b c w) w : Nat) : Int) := rfl
  unfold pre33 fn33 tree33 Tr.ok
  simp only [rsub_eq, e, ht.2, Tr.wp, Tr.val]
  exact ⟨⟨rsub_ok _ _ _ _, ht.1, trivial⟩, rfl⟩

def keepC (was : Fl) (s : Int × Fl) : Int × Fl := (s.1, (was.1, s.2.2))

theorem inc_eq {a : Nat} (ha : a < 18446744073709551616) (w : Int) (was : Fl) :
    pre36 (w, ((a : Int), was)) ∧ fn36 (w, ((a : Int), was)) = keepC was (aaddF w a 1 false) ∧ pre37 (w, ((a : Int), was)) ∧ fn37 (w, ((a : Int), was)) = keepC was (aaddF w a 1 false) := by
  have h := aadd_eq ha (b := 1) (by decide) w false
  have g := rAdd_eq (a := a) (b := 1) w false
  have k1 : ((1 : Nat) : Int) = 1 := rfl
  rw [k1] at h g
  unfold pre36 fn36 tree36 pre37 fn37 tree37 Tr.ok
  simp only [h.2, g.2, Tr.wp, Tr.val]
  exact ⟨⟨h.1, trivial⟩, rfl, ⟨g.1, trivial⟩, rfl⟩

theorem dec_eq {a : Nat} (ha : a < 18446744073709551616) (w : Int) (was : Fl) :
    pre38 (w, ((a : Int), was)) ∧ fn38 (w, ((a : Int), was)) = keepC was (asubF w a 1 false) ∧ pre39 (w, ((a : Int), was)) ∧ fn39 (w, ((a : Int), was)) = keepC was (asubF w a 1 false) := by
  have h := asub_eq ha (b := 1) (by decide) w false
  have g := rSub_eq (a := a) (b := 1) w false
  have k1 : ((1 : Nat) : Int) = 1 := rfl
  rw [k1] at h g
  unfold pre38 fn38 tree38 pre39 fn39 tree39 Tr.ok
  simp only [h.2, g.2, Tr.wp, Tr.val]
  exact ⟨⟨h.1, trivial⟩, rfl, ⟨g.1, trivial⟩, rfl⟩

theorem rneg_eq (a : Nat) (w : Int) : pre40 (w, (a : Int)) ∧ fn40 (w, (a : Int)) = asubF w 0 a false := by
  have g := rSub_eq (a := 0) (b := a) w false
  exact ⟨⟨g.1, trivial⟩, g.2⟩

theorem rmul_eq {a b : Nat} (ha : a < 18446744073709551616) (hb : b < 18446744073709551616) (w : Int) :
    pre43 (w, ((a : Int), (b : Int))) ∧ fn43 (w, ((a : Int), (b : Int))) = mulF w a b := by
  have hw := wd_pos w
  have hwd : imin (imax w 1) 8 = (wd w : Int) := wide_eq w
  have hm := mul64 (cut_64 a w) (cut_64 b w)
  have hp := prod_lt w a b
  have hall : imul .i64 8 (wd w : Int) = ((8 * wd w : Nat) : Int) := by unfold imul; rw [i64_small (by omega) (by omega)]; omega
  have hcv : iconv .u64 ((8 * wd w : Nat) : Int) = ((8 * wd w : Nat) : Int) := by unfold iconv; rw [wrap_u64]; omega
  have hsub : iconv .u64 (isub .i64 64 ((8 * wd w : Nat) : Int)) = ((64 - 8 * wd w : Nat) : Int) := by unfold isub iconv; rw [i64_small (by omega) (by omega), wrap_u64]; omega
  have hcl : ∀ x : Nat, fn21 (((x % 18446744073709551616 : Nat) : Int), w) = (cut x w : Int) := fun x => by rw [rcut_eq (Nat.mod_lt _ (by decide)), mod_64_cut]
  have hlow : cut (cut a w * cut b w) w = lowF w a b := rfl
  have h64 : cut a w * cut b w / 18446744073709551616 < 18446744073709551616 := by
    have h1 := cut_64 a w
    have h2 := cut_64 b w
    rw [Nat.div_lt_iff_lt_mul (by decide)]
    calc cut a w * cut b w ≤ cut a w * 18446744073709551616 := Nat.mul_le_mul_left _ (Nat.le_of_lt h2)
      _ < 18446744073709551616 * 18446744073709551616 := Nat.mul_lt_mul_of_pos_right h1 (by decide)
  have ht := rlogic_eq (Nat.lt_of_lt_of_le (low_lt w a b) (pw_le w)) w
  have l8 : ilt (wd w : Int) 8 = decide (wd w < 8) := ilt_nat _ 8
  unfold pre43 fn43 tree43 Tr.ok
  simp only [hwd, rcut_eq ha, rcut_eq hb, hm.2, l8, hall, hcv, hsub, hcl, hlow, ht.2, Tr.wp, Tr.val]
  by_cases h8 : wd w < 8
  · rw [decide_eq_true h8]
    simp only [cond_true]
    have e1 : ishl .u64 ((cut a w * cut b w / 18446744073709551616 : Nat) : Int) ((64 - 8 * wd w : Nat) : Int) = ((cut a w * cut b w / 18446744073709551616 * 2 ^ (64 - 8 * wd w) % 18446744073709551616 : Nat) : Int) := ishl_u64 (by omega)
    have e2 : ishr .u64 ((cut a w * cut b w % 18446744073709551616 : Nat) : Int) ((8 * wd w : Nat) : Int) = ((cut a w * cut b w % 18446744073709551616 / 2 ^ (8 * wd w) : Nat) : Int) := ishr_u64 (by omega)
    have l1 : cut a w * cut b w / 18446744073709551616 * 2 ^ (64 - 8 * wd w) % 18446744073709551616 < 18446744073709551616 := Nat.mod_lt _ (by decide)
    have l2 : cut a w * cut b w % 18446744073709551616 / 2 ^ (8 * wd w) < 18446744073709551616 := Nat.lt_of_le_of_lt (Nat.div_le_self _ _) (Nat.mod_lt _ (by decide))
    rw [e1, e2, ior_u64 l2 l1, rcut_eq (Nat.or_lt_two_pow (n := 64) l2 l1), Nat.or_comm]
    have e3 : cut ((cut a w * cut b w / 18446744073709551616 * 2 ^ (64 - 8 * wd w) % 18446744073709551616) ||| (cut a w * cut b w % 18446744073709551616 / 2 ^ (8 * wd w))) w = highF w a b := high_or h8 hp
    rw [e3, ine_zero]
    exact ⟨⟨rcut_ok _ _, rcut_ok _ _, hm.1, by omega, by omega, rcut_ok _ _, rcut_ok _ _, ht.1, trivial⟩, rfl⟩
  · rw [decide_eq_false h8]
    simp only [cond_false]
    have e8 : wd w = 8 := by omega
    have e3 : cut (cut a w * cut b w / 18446744073709551616) w = highF w a b := by
      change cut a w * cut b w / 18446744073709551616 % 2 ^ (8 * wd w) = cut a w * cut b w / 2 ^ (8 * wd w)
      rw [e8]
      exact Nat.mod_eq_of_lt h64
    rw [rcut_eq h64, e3, ine_zero]
    exact ⟨⟨rcut_ok _ _, rcut_ok _ _, hm.1, rcut_ok _ _, rcut_ok _ _, ht.1, trivial⟩, rfl⟩

/-! ### Long division -/
theorem rdiv_ends {hi lo d : Nat} (hh : hi < 18446744073709551616) (hl : lo < 18446744073709551616) (hd : d < 18446744073709551616) (w : Int) :
    Ends (step44 (w, ((hi : Int), ((lo : Int), (d : Int))))) (divF w hi lo d) (tree44 (w, ((hi : Int), ((lo : Int), (d : Int))))) := by
  have hw := wd_pos w
  have hall : imul .i64 8 (imin (imax w 1) 8) = ((8 * wd w : Nat) : Int) := bits_all w
  have hsub : isub .i64 ((8 * wd w : Nat) : Int) 1 = ((8 * wd w : Nat) : Int) - 1 := by unfold isub; rw [i64_small (by omega) (by omega)]
  have h1 := cut_lt hi w
  have h2 := cut_lt lo w
  have h3 := cut_lt d w
  have h4 := pw_le w
  unfold tree44
  simp only [hall, hsub, rcut_eq hh, rcut_eq hl, rcut_eq hd, ieq_zero, ile_nat]
  refine .need _ _ (rcut_ok _ _) (.need _ _ (rcut_ok _ _) (.need _ _ (rcut_ok _ _) ?_))
  by_cases hz : cut d w = 0
  · rw [decide_eq_true hz]
    refine .no _ _ ?_
    have : divF w hi lo d = (0, (0, false)) := by unfold divF; rw [if_pos (.inl hz)]
    rw [this]; exact .ret
  · rw [decide_eq_false hz]
    refine .yes _ _ ?_
    by_cases hle : cut d w ≤ cut hi w
    · rw [decide_eq_true hle]
      refine .yes _ _ ?_
      have : divF w hi lo d = (0, (0, false)) := by unfold divF; rw [if_pos (.inr hle)]
      rw [this]; exact .ret
    · rw [decide_eq_false hle]
      refine .no _ _ (.jump _ ?_)
      have hres : divF w hi lo d = ((((cut hi w * 2 ^ (8 * wd w) + cut lo w) / cut d w : Nat) : Int), ((((cut hi w * 2 ^ (8 * wd w) + cut lo w) % cut d w : Nat) : Int), true)) := by
        unfold divF; rw [if_neg (by omega)]
      rw [hres]
      have hC : cut d w < 18446744073709551616 := by omega
      have hL : cut lo w < 18446744073709551616 := by omega
      have hHC : cut hi w < cut d w := by omega
      generalize cut hi w = H at *
      generalize cut lo w = L at *
      generalize cut d w = C at *
      -- at i bits left: the quotient's bits above i, and the rest
      have go : ∀ (i q r : Nat), i ≤ 8 * wd w → r < C → q % 2 ^ i = 0 → q < 2 ^ (8 * wd w) → (H * 2 ^ (8 * wd w) + L) / 2 ^ i = q / 2 ^ i * C + r →
          Ends (step44 (w, ((hi : Int), ((lo : Int), (d : Int))))) ((((H * 2 ^ (8 * wd w) + L) / C : Nat) : Int), ((((H * 2 ^ (8 * wd w) + L) % C : Nat) : Int), true)) (step44 (w, ((hi : Int), ((lo : Int), (d : Int)))) (.h0 (L : Int) (C : Int) (q : Int) (r : Int) ((i : Int) - 1))) := by
        intro i
        induction i with
        | zero =>
          intro q r hi' hr hq hq2 he
          have hc : ile 0 (((0 : Nat) : Int) - 1) = false := by decide
          simp only [step44, hc]
          refine .no _ _ ?_
          rw [Nat.pow_zero, Nat.div_one, Nat.div_one] at he
          have e1 : (H * 2 ^ (8 * wd w) + L) / C = q := by rw [he, Nat.mul_comm, Nat.mul_add_div (by omega), Nat.div_eq_of_lt hr]; rfl
          have e2 : (H * 2 ^ (8 * wd w) + L) % C = r := by rw [he, Nat.mul_comm, Nat.mul_add_mod, Nat.mod_eq_of_lt hr]
          rw [e1, e2]; exact .ret
        | succ i ih =>
          intro q r hi' hr hq hq2 he
          have hi64 : i < 64 := by omega
          have hcast : (((i + 1 : Nat) : Int) - 1) = (i : Int) := by omega
          rw [hcast]
          have hc : ile 0 (i : Int) = true := by rw [show (0 : Int) = ((0 : Nat) : Int) from rfl, ile_nat]; exact decide_eq_true (by omega)
          have cv : iconv .u64 (i : Int) = (i : Int) := u64_idx hi64
          have hp : 0 < 2 ^ i := Nat.pow_pos (by decide)
          -- the next bit of the number
          have hbit : (H * 2 ^ (8 * wd w) + L) / 2 ^ i = 2 * ((H * 2 ^ (8 * wd w) + L) / 2 ^ (i + 1)) + L / 2 ^ i % 2 := by
            have e1 : (H * 2 ^ (8 * wd w) + L) / 2 ^ (i + 1) = (H * 2 ^ (8 * wd w) + L) / 2 ^ i / 2 := by rw [Nat.pow_succ, Nat.div_div_eq_div_mul]
            have e2 : (H * 2 ^ (8 * wd w) + L) / 2 ^ i % 2 = L / 2 ^ i % 2 := by
              have ep : 2 ^ (8 * wd w) = 2 ^ i * (2 * 2 ^ (8 * wd w - i - 1)) := by
                rw [← Nat.pow_succ', ← Nat.pow_add]; congr 1; omega
              have : H * 2 ^ (8 * wd w) = 2 ^ i * (2 * (H * 2 ^ (8 * wd w - i - 1))) := by
                rw [ep, Nat.mul_left_comm, Nat.mul_left_comm H 2]
              rw [this, Nat.mul_add_div hp, Nat.mul_add_mod]
            rw [e1]
            have := Nat.div_add_mod ((H * 2 ^ (8 * wd w) + L) / 2 ^ i) 2
            omega
          have hb : L / 2 ^ i % 2 < 2 := Nat.mod_lt _ (by decide)
          generalize hbb : L / 2 ^ i % 2 = b at hbit hb
          have hq' : q / 2 ^ i = 2 * (q / 2 ^ (i + 1)) := by
            have e1 : q / 2 ^ (i + 1) = q / 2 ^ i / 2 := by rw [Nat.pow_succ, Nat.div_div_eq_div_mul]
            have e2 : q / 2 ^ i % 2 = 0 := by
              rw [mod_step] at hq
              have h0 : 2 ^ i * (q / 2 ^ i % 2) = 0 := by omega
              rcases Nat.mul_eq_zero.1 h0 with h | h
              · omega
              · exact h
            have := Nat.div_add_mod (q / 2 ^ i) 2
            omega
          have hq0 : q % 2 ^ i = 0 := by rw [mod_step] at hq; omega
          have hnum : (H * 2 ^ (8 * wd w) + L) / 2 ^ i = q / 2 ^ i * C + (2 * r + b) := by
            rw [hbit, he, hq', Nat.mul_add, Nat.mul_assoc]; omega
          have e63 : ishr .u64 (r : Int) 63 = ((r / 2 ^ 63 : Nat) : Int) := ishr_u64 (k := 63) (by decide)
          have eb : iand .u64 (ishr .u64 (L : Int) (i : Int)) 1 = (b : Int) := by rw [bit_u64 _ _ hi64, hbb]
          have esh : ishl .u64 (r : Int) 1 = ((r * 2 % 18446744073709551616 : Nat) : Int) := by have := ishl_u64 (a := r) (k := 1) (by decide); simpa using this
          have hor : ior .u64 ((r * 2 % 18446744073709551616 : Nat) : Int) (b : Int) = (((2 * r + b) % 18446744073709551616 : Nat) : Int) := by
            rw [ior_u64 (Nat.mod_lt _ (by decide)) (by omega)]
            have e : r * 2 % 18446744073709551616 = 2 ^ 1 * (r % 9223372036854775808) := by omega
            rw [e, ← Nat.two_pow_add_eq_or_of_lt (show b < 2 ^ 1 by omega)]
            congr 1; omega
          -- with the bit set
          have hset : ior .u64 (q : Int) (ishl .u64 1 (i : Int)) = ((q + 2 ^ i : Nat) : Int) := by
            have hq64 : q < 18446744073709551616 := by omega
            rw [one_shl hi64, ior_u64 hq64 (pow_lt64 hi64)]
            have ediv : q = 2 ^ (i + 1) * (q / 2 ^ (i + 1)) := by have := Nat.div_add_mod q (2 ^ (i + 1)); omega
            have : q ||| 2 ^ i = q + 2 ^ i := by
              have h1 := Nat.two_pow_add_eq_or_of_lt (show 2 ^ i < 2 ^ (i + 1) from Nat.pow_lt_pow_right (by decide) (by omega)) (q / 2 ^ (i + 1))
              rw [← ediv] at h1; exact h1.symm
            rw [this]
          have yes : ∀ r' : Nat, 2 * r + b = C + r' → r' < C → Ends (step44 (w, ((hi : Int), ((lo : Int), (d : Int))))) ((((H * 2 ^ (8 * wd w) + L) / C : Nat) : Int), ((((H * 2 ^ (8 * wd w) + L) % C : Nat) : Int), true)) (step44 (w, ((hi : Int), ((lo : Int), (d : Int)))) (.h0 (L : Int) (C : Int) ((q + 2 ^ i : Nat) : Int) (r' : Int) ((i : Int) - 1))) := by
            intro r' hr1 hr2
            refine ih (q + 2 ^ i) r' (by omega) hr2 ?_ ?_ ?_
            · rw [Nat.add_mod_right]; exact hq0
            · have ediv : q = 2 ^ (i + 1) * (q / 2 ^ (i + 1)) := by have := Nat.div_add_mod q (2 ^ (i + 1)); omega
              have hlt : q / 2 ^ (i + 1) < 2 ^ (8 * wd w - (i + 1)) := by
                rw [Nat.div_lt_iff_lt_mul (Nat.pow_pos (by decide)), ← Nat.pow_add, show 8 * wd w - (i + 1) + (i + 1) = 8 * wd w by omega]; exact hq2
              have h5 : 2 ^ (i + 1) * (q / 2 ^ (i + 1) + 1) ≤ 2 ^ (i + 1) * 2 ^ (8 * wd w - (i + 1)) := Nat.mul_le_mul_left _ hlt
              rw [← Nat.pow_add, show i + 1 + (8 * wd w - (i + 1)) = 8 * wd w by omega, Nat.mul_add, ← ediv, Nat.mul_one] at h5
              have h6 : 2 ^ (i + 1) = 2 * 2 ^ i := Nat.pow_succ' 
              omega
            · rw [Nat.add_div_right _ hp, hnum, hr1, Nat.add_mul, Nat.one_mul]; omega
          have i1 : isub .i64 (i : Int) 1 = (i : Int) - 1 := by unfold isub; exact i64_small (by omega) (by omega)
          have c63 : ieq ((r / 2 ^ 63 : Nat) : Int) 1 = decide (r / 2 ^ 63 = 1) := by
            rw [ieq_dec, decide_eq_decide]; omega
          simp only [step44, hc, cv, e63, eb, esh, hor, hset, i1, c63]
          refine .yes _ _ (.need _ _ (by decide) (.need _ _ (by decide) (.need _ _ (by omega) ?_)))
          by_cases htop : r / 2 ^ 63 = 1
          · rw [decide_eq_true htop]
            refine .no _ _ (.need _ _ (by omega) (.jump _ ?_))
            have es : isub .u64 (((2 * r + b) % 18446744073709551616 : Nat) : Int) (C : Int) = ((2 * r + b - C : Nat) : Int) := by
              unfold isub; rw [wrap_u64]; omega
            rw [es]
            exact yes (2 * r + b - C) (by omega) (by omega)
          · rw [decide_eq_false htop]
            have hsm : (2 * r + b) % 18446744073709551616 = 2 * r + b := Nat.mod_eq_of_lt (by omega)
            rw [hsm, ile_nat]
            refine .yes _ _ ?_
            by_cases hge : C ≤ 2 * r + b
            · rw [decide_eq_true hge, isub_u64 hge (by omega)]
              exact .yes _ _ (.need _ _ (by omega) (.jump _ (yes (2 * r + b - C) (by omega) (by omega))))
            · rw [decide_eq_false hge]
              refine .no _ _ (.jump _ ?_)
              exact ih q (2 * r + b) (by omega) (by omega) hq0 hq2 hnum
      refine go (8 * wd w) 0 H (Nat.le_refl _) hHC (Nat.zero_mod _) (Nat.pow_pos (by decide)) ?_
      rw [Nat.mul_comm, Nat.mul_add_div (Nat.pow_pos (by decide)), Nat.div_eq_of_lt h2]; simp

theorem rdiv_eq {hi lo d : Nat} (hh : hi < 18446744073709551616) (hl : lo < 18446744073709551616) (hd : d < 18446744073709551616) (w : Int) :
    pre44 (w, ((hi : Int), ((lo : Int), (d : Int)))) ∧ fn44 (w, ((hi : Int), ((lo : Int), (d : Int)))) = divF w hi lo d :=
  ⟨⟨_, rdiv_ends hh hl hd w⟩, endVal_eq (rdiv_ends hh hl hd w)⟩

theorem count_eq {n : Nat} (hn : n < 256) (w : Int) : pre63 (w, (n : Int)) ∧ fn63 (w, (n : Int)) = (cnt w n : Int) := by
  have cv : iconv .i64 (n : Int) = (n : Int) := by unfold iconv; exact i64_small (by omega) (by omega)
  have r64 : irem .i64 (n : Int) 64 = ((n % 64 : Nat) : Int) := irem_u64 (a := n) (b := 64)
  have r32 : irem .i64 (n : Int) 32 = ((n % 32 : Nat) : Int) := irem_u64 (a := n) (b := 32)
  have hile : ile 8 w = decide (8 ≤ w) := rfl
  unfold pre63 fn63 tree63 Tr.ok cnt
  simp only [cv, r64, r32, hile, Tr.wp, Tr.val]
  by_cases h : 8 ≤ w
  · rw [decide_eq_true h, if_pos h]; exact ⟨⟨by decide, trivial⟩, rfl⟩
  · rw [decide_eq_false h, if_neg h]; exact ⟨⟨by decide, trivial⟩, rfl⟩
end Go.Eng.RA
end
section
/- Plain laws: the document's own products with signs, and its shifts. -/
set_option linter.unusedSimpArgs false
namespace Go.Eng.RA
open Go.Eng
set_option maxRecDepth 100000

/-- A word's value without its sign. -/
def mag (a : Nat) (w : Int) : Nat := if sg a w = true then PW w - cut a w else cut a w

theorem sg_cut_top (a : Nat) (w : Int) : sg a w = decide (2 ^ (8 * wd w - 1) ≤ cut a w) := by
  rw [← sg_cut]; exact sg_top (cut a w) w _ rfl (cut_lt a w)

theorem PW_two (w : Int) : PW w = 2 * 2 ^ (8 * wd w - 1) := by
  have hw := wd_pos w
  unfold PW; rw [← Nat.pow_succ']; congr 1; omega

theorem mag_le (a : Nat) (w : Int) : mag a w ≤ 2 ^ (8 * wd w - 1) := by
  have h := cut_lt a w
  have e := PW_two w
  unfold mag
  rw [sg_cut_top]
  unfold PW at *
  split
  · rename_i hs; simp only [decide_eq_true_eq] at hs; omega
  · rename_i hs; simp only [decide_eq_true_eq] at hs; omega

theorem mag_lt (a : Nat) (w : Int) : mag a w < PW w := by
  have h := mag_le a w
  have e := PW_two w
  have hp : 0 < 2 ^ (8 * wd w - 1) := Nat.pow_pos (by decide)
  omega

theorem sx_mag (a : Nat) (w : Int) : sx a w = if sg a w = true then -(mag a w : Int) else (mag a w : Int) := by
  have h := cut_lt a w
  have e := PW_two w
  unfold sx mag
  rw [sg_cut_top]
  unfold PW at *
  by_cases hs : 2 ^ (8 * wd w - 1) ≤ cut a w
  · rw [if_neg (by omega), if_pos (decide_eq_true hs), if_pos (decide_eq_true hs)]; omega
  · rw [if_pos (by omega), if_neg (by simp [hs]), if_neg (by simp [hs])]

theorem neg_cut (x : Nat) (w : Int) (hx : x < PW w) : pre21 (ineg .u64 (x : Int), w) ∧ fn21 (ineg .u64 (x : Int), w) = (((PW w - x) % PW w : Nat) : Int) := by
  have hp := pw_le w
  have e : ineg .u64 (x : Int) = (((18446744073709551616 - x) % 18446744073709551616 : Nat) : Int) := by
    unfold ineg; rw [wrap_u64]; unfold PW at hx; omega
  refine ⟨rcut_ok _ _, ?_⟩
  rw [e, rcut_eq (Nat.mod_lt _ (by decide)), mod_64_cut]
  unfold cut
  unfold PW at *
  rcases wd_cases w with h | h | h | h | h | h | h | h <;> rw [h] at hx ⊢ <;> simp only [Nat.reduceMul, Nat.reducePow] at hx ⊢ <;> omega

theorem mag_neg (a : Nat) (w : Int) (hs : sg a w = true) : fn21 (ineg .u64 (cut a w : Int), w) = (mag a w : Int) := by
  rw [(neg_cut _ w (cut_lt a w)).2]
  unfold mag
  rw [if_pos hs]
  rw [sg_cut_top] at hs
  simp only [decide_eq_true_eq] at hs
  have hp : 0 < 2 ^ (8 * wd w - 1) := Nat.pow_pos (by decide)
  rw [Nat.mod_eq_of_lt (by have := PW_pos w; omega)]

theorem mag_pos (a : Nat) (w : Int) (hs : sg a w = false) : cut a w = mag a w := by
  unfold mag; rw [if_neg (by simp [hs])]

theorem low_mag (a b : Nat) (w : Int) : lowF w (mag a w) (mag b w) = mag a w * mag b w % PW w ∧ highF w (mag a w) (mag b w) = mag a w * mag b w / PW w := by
  unfold lowF highF
  rw [cut_small (mag_lt a w), cut_small (mag_lt b w)]
  exact ⟨rfl, rfl⟩

theorem fit_same (m T P : Nat) (hP : P = 2 * T) (hT : 0 < T) : (decide (-(T : Int) ≤ (m : Int)) && decide ((m : Int) < (T : Int))) = (decide (m / P = 0) && decide (m % P < T)) := by
  subst hP
  rw [Bool.eq_iff_iff]
  simp only [Bool.and_eq_true, decide_eq_true_eq]
  by_cases h : m < 2 * T
  · rw [Nat.div_eq_of_lt h, Nat.mod_eq_of_lt h]; omega
  · have : 1 ≤ m / (2 * T) := by rw [Nat.le_div_iff_mul_le (by omega)]; omega
    omega

theorem fit_diff (m T P : Nat) (hP : P = 2 * T) (hT : 0 < T) : (decide (-(T : Int) ≤ -(m : Int)) && decide (-(m : Int) < (T : Int))) = (decide (m / P = 0) && (decide (m % P < T) || decide (m % P = T))) := by
  subst hP
  rw [Bool.eq_iff_iff]
  simp only [Bool.and_eq_true, Bool.or_eq_true, decide_eq_true_eq]
  by_cases h : m < 2 * T
  · rw [Nat.div_eq_of_lt h, Nat.mod_eq_of_lt h]; omega
  · have : 1 ≤ m / (2 * T) := by rw [Nat.le_div_iff_mul_le (by omega)]; omega
    omega

theorem sx_pair (a b : Nat) (w : Int) : sx a w * sx b w = if sg a w = sg b w then ((mag a w * mag b w : Nat) : Int) else -((mag a w * mag b w : Nat) : Int) := by
  rw [sx_mag a, sx_mag b, Int.natCast_mul]
  cases sg a w <;> cases sg b w <;> simp [Int.neg_mul, Int.mul_neg]

theorem over_same (a b : Nat) (w : Int) (h : sg a w = sg b w) : overS w a b = !(decide (mag a w * mag b w / PW w = 0) && decide (mag a w * mag b w % PW w < 2 ^ (8 * wd w - 1))) := by
  unfold overS
  rw [sx_pair, if_pos h, fit_same _ _ (PW w) (PW_two w) (Nat.pow_pos (by decide))]

theorem over_diff (a b : Nat) (w : Int) (h : sg a w ≠ sg b w) : overS w a b = !(decide (mag a w * mag b w / PW w = 0) && (decide (mag a w * mag b w % PW w < 2 ^ (8 * wd w - 1)) || decide (mag a w * mag b w % PW w = 2 ^ (8 * wd w - 1)))) := by
  unfold overS
  rw [sx_pair, if_neg h, fit_diff _ _ (PW w) (PW_two w) (Nat.pow_pos (by decide))]

theorem low_is (a b : Nat) (w : Int) : lowF w a b = if sg a w = sg b w then mag a w * mag b w % PW w else (PW w - mag a w * mag b w % PW w) % PW w := by
  obtain ⟨k, hk⟩ := low_int a b w
  rw [sx_pair] at hk
  have hl := low_lt w a b
  have hP := PW_pos w
  change lowF w a b < PW w at hl
  change (lowF w a b : Int) = _ + (PW w : Int) * k at hk
  generalize mag a w * mag b w = m at *
  generalize PW w = P at *
  generalize lowF w a b = l at *
  have e : ∀ z : Int, (l : Int) = z + (P : Int) * k → (l : Int) = z % (P : Int) := by
    intro z h
    have : (l : Int) % (P : Int) = z % (P : Int) := by rw [h, Int.add_mul_emod_self_left]
    rw [← this, Int.emod_eq_of_lt (by omega) (by omega)]
  split at hk
  · rename_i hs
    rw [if_pos hs]
    have := e _ hk
    have h2 : ((m : Int) % (P : Int)) = ((m % P : Nat) : Int) := rfl
    rw [h2] at this; omega
  · rename_i hs
    rw [if_neg hs]
    have h1 := e _ hk
    have hm : m % P < P := Nat.mod_lt _ hP
    have h2 : (-(m : Int)) % (P : Int) = (((P - m % P) % P : Nat) : Int) := by
      have hd := Nat.div_add_mod m P
      have e1 : -(m : Int) = ((P - m % P : Nat) : Int) + (P : Int) * (-((m / P : Nat) : Int) - 1) := by
        have : (m : Int) = (P : Int) * ((m / P : Nat) : Int) + ((m % P : Nat) : Int) := by rw [← Int.natCast_mul, ← Int.natCast_add, hd]
        rw [Int.mul_sub, Int.mul_neg, Int.mul_one]; omega
      rw [e1, Int.add_mul_emod_self_left]; rfl
    rw [h2] at h1; omega

theorem top_bits (w : Int) : iconv .u64 (isub .i64 (imul .i64 8 (imin (imax w 1) 8)) 1) = ((8 * wd w - 1 : Nat) : Int) := rsign_bits w

theorem ilt_n (a b : Nat) : (ilt (a : Int) (b : Int) == false) = !decide (a < b) := by rw [ilt_nat]; cases decide (a < b) <;> rfl

theorem flags_mk (r : Nat) (w : Int) (c : Bool) : ((r : Int), (c, ((flagsOf r w false false).2.1, ((flagsOf r w false false).2.2.1, (c, (flagsOf r w false false).2.2.2.2))))) = ((r : Int), flagsOf r w c c) := rfl

theorem res_need {α : Type} {p : Prop} {t : Tr α} {v : α} (hp : p) (h : t.ok ∧ t.val = v) : (Tr.need p t).ok ∧ (Tr.need p t).val = v := ⟨⟨hp, h.1⟩, h.2⟩
theorem res_yes {α : Type} {b : Bool} {t e : Tr α} {v : α} (hb : b = true) (h : t.ok ∧ t.val = v) : (Tr.ite b t e).ok ∧ (Tr.ite b t e).val = v := by subst hb; exact h
theorem res_no {α : Type} {b : Bool} {t e : Tr α} {v : α} (hb : b = false) (h : e.ok ∧ e.val = v) : (Tr.ite b t e).ok ∧ (Tr.ite b t e).val = v := by subst hb; exact h

theorem rimul_eq {a b : Nat} (ha : a < 18446744073709551616) (hb : b < 18446744073709551616) (w : Int) :
    pre42 (w, ((a : Int), (b : Int))) ∧ fn42 (w, ((a : Int), (b : Int))) = imulF w a b := by
  have hw := wd_pos w
  have hp64 := pw_le w
  have hmg := rmul_eq (a := mag a w) (b := mag b w) (Nat.lt_of_lt_of_le (mag_lt a w) hp64) (Nat.lt_of_lt_of_le (mag_lt b w) hp64) w
  have hlh := low_mag a b w
  have e1 : (mulF w (mag a w) (mag b w)).1 = ((mag a w * mag b w % PW w : Nat) : Int) := by unfold mulF; rw [hlh.1]
  have e2 : (mulF w (mag a w) (mag b w)).2.1 = ((mag a w * mag b w / PW w : Nat) : Int) := by unfold mulF; rw [hlh.2]
  have hm : mag a w * mag b w % PW w < PW w := Nat.mod_lt _ (PW_pos w)
  have hm64 : mag a w * mag b w % PW w < 18446744073709551616 := Nat.lt_of_lt_of_le hm hp64
  have hn := neg_cut _ w hm
  have hn64 : (PW w - mag a w * mag b w % PW w) % PW w < 18446744073709551616 := Nat.lt_of_lt_of_le (Nat.mod_lt _ (PW_pos w)) hp64
  have hl1 := rlogic_eq hm64 w
  have hl2 := rlogic_eq hn64 w
  have htop : ishl .u64 1 ((8 * wd w - 1 : Nat) : Int) = ((2 ^ (8 * wd w - 1) : Nat) : Int) := one_shl (by omega)
  have hli := low_is a b w
  have n0 : (0 : Int) ≤ ((8 * wd w - 1 : Nat) : Int) := by omega
  have ie : ∀ p q : Nat, ieq (p : Int) (q : Int) = decide (p = q) := fun p q => by rw [ieq_dec, decide_eq_decide]; omega
  have et : ∀ p : Bool, (p == true) = p := fun p => by cases p <;> rfl
  have ho1 := over_same a b w
  have ho2 := over_diff a b w
  have hR : imulF w a b = ((lowF w a b : Int), flagsOf (lowF w a b) w (overS w a b) (overS w a b)) := by unfold imulF; rw [low_same]
  rw [hR]
  have sA : fn59 (fn21 ((a : Int), w), w) = sg a w := by rw [rcut_eq ha, rsign_eq, sg_cut]
  have sB : fn59 (fn21 ((b : Int), w), w) = sg b w := by rw [rcut_eq hb, rsign_eq, sg_cut]
  have cA := rcut_eq ha w
  have cB := rcut_eq hb w
  have top := top_bits w
  clear hR hlh hm hm64 hn64 hp64
  generalize mag a w * mag b w % PW w = L at *
  generalize mag a w * mag b w / PW w = Hh at *
  generalize (PW w - L) % PW w = R at *
  generalize mulF w (mag a w) (mag b w) = M at *
  generalize 2 ^ (8 * wd w - 1) = Tp at *
  generalize lowF w a b = Lo at *
  generalize overS w a b = Ov at *
  refine res_need (t := _) (rcut_ok _ _) (res_need (rcut_ok _ _) (res_need (rsign_ok _ _) (res_need (rsign_ok _ _) (res_need (rsign_ok _ _) ?_))))
  cases ea : sg a w with
  | true =>
    cases eb : sg b w with
    | true =>
      have ma := mag_neg a w ea
      have mb := mag_neg b w eb
      have ho := ho1 (by rw [ea, eb])
      rw [if_pos (by rw [ea, eb])] at hli
      subst hli
      subst ho
      refine res_yes (sA.trans ea) (res_need (rcut_ok _ _) (res_need (rsign_ok _ _) (res_yes (sB.trans eb) (res_need (rcut_ok _ _) (?_)))))
      simp only [sA, sB, ea, eb, Tr.ok, Tr.wp, Tr.val, Bool.true_eq_false, beq_self_eq_true, Bool.not_true, Bool.not_false, cond_true, cond_false, show ((true : Bool) == false) = false from rfl, show ((false : Bool) == true) = false from rfl]
      simp only [cA, cB, ma, mb, top, htop, hmg.2, e1, e2, ieq_zero, ilt_n, ie, et, hn.2, hl1.2, hl2.2, flags_mk, beq_self_eq_true, Bool.not_true, Bool.not_false, cond_true, cond_false]
      cases decide (Hh = 0) <;> cases decide (Lo < Tp) <;> exact ⟨⟨hmg.1, n0, hl1.1, trivial⟩, rfl⟩
    | false =>
      have ma := mag_neg a w ea
      have mb := mag_pos b w eb
      have ho := ho2 (by rw [ea, eb]; simp)
      rw [if_neg (by rw [ea, eb]; simp)] at hli
      subst hli
      subst ho
      refine res_yes (sA.trans ea) (res_need (rcut_ok _ _) (res_need (rsign_ok _ _) (res_no (sB.trans eb) (?_))))
      simp only [sA, sB, ea, eb, Tr.ok, Tr.wp, Tr.val, Bool.true_eq_false, beq_self_eq_true, Bool.not_true, Bool.not_false, cond_true, cond_false, show ((true : Bool) == false) = false from rfl, show ((false : Bool) == true) = false from rfl]
      simp only [cA, cB, ma, mb, top, htop, hmg.2, e1, e2, ieq_zero, ilt_n, ie, et, hn.2, hl1.2, hl2.2, flags_mk, beq_self_eq_true, Bool.not_true, Bool.not_false, cond_true, cond_false]
      cases decide (Hh = 0) <;> cases decide (L < Tp) <;> cases decide (L = Tp) <;> exact ⟨⟨hmg.1, n0, rcut_ok _ _, hl2.1, trivial⟩, rfl⟩
  | false =>
    cases eb : sg b w with
    | true =>
      have ma := mag_pos a w ea
      have mb := mag_neg b w eb
      have ho := ho2 (by rw [ea, eb]; simp)
      rw [if_neg (by rw [ea, eb]; simp)] at hli
      subst hli
      subst ho
      refine res_no (sA.trans ea) (res_need (rsign_ok _ _) (res_yes (sB.trans eb) (res_need (rcut_ok _ _) (?_))))
      simp only [sA, sB, ea, eb, Tr.ok, Tr.wp, Tr.val, Bool.true_eq_false, beq_self_eq_true, Bool.not_true, Bool.not_false, cond_true, cond_false, show ((true : Bool) == false) = false from rfl, show ((false : Bool) == true) = false from rfl]
      simp only [cA, cB, ma, mb, top, htop, hmg.2, e1, e2, ieq_zero, ilt_n, ie, et, hn.2, hl1.2, hl2.2, flags_mk, beq_self_eq_true, Bool.not_true, Bool.not_false, cond_true, cond_false]
      cases decide (Hh = 0) <;> cases decide (L < Tp) <;> cases decide (L = Tp) <;> exact ⟨⟨hmg.1, n0, rcut_ok _ _, hl2.1, trivial⟩, rfl⟩
    | false =>
      have ma := mag_pos a w ea
      have mb := mag_pos b w eb
      have ho := ho1 (by rw [ea, eb])
      rw [if_pos (by rw [ea, eb])] at hli
      subst hli
      subst ho
      refine res_no (sA.trans ea) (res_need (rsign_ok _ _) (res_no (sB.trans eb) (?_)))
      simp only [sA, sB, ea, eb, Tr.ok, Tr.wp, Tr.val, Bool.true_eq_false, beq_self_eq_true, Bool.not_true, Bool.not_false, cond_true, cond_false, show ((true : Bool) == false) = false from rfl, show ((false : Bool) == true) = false from rfl]
      simp only [cA, cB, ma, mb, top, htop, hmg.2, e1, e2, ieq_zero, ilt_n, ie, et, hn.2, hl1.2, hl2.2, flags_mk, beq_self_eq_true, Bool.not_true, Bool.not_false, cond_true, cond_false]
      cases decide (Hh = 0) <;> cases decide (Lo < Tp) <;> exact ⟨⟨hmg.1, n0, hl1.1, trivial⟩, rfl⟩

/-! ### Shifts, bit by bit -/
theorem valS_step {d w : Int} {a k : Nat} (_ha : a < PW w) : valS d w (valS d w a k) 1 = valS d w a (k + 1) := valS_valS

/-- The flag that is kept while a turn goes on. -/
def carT (d w : Int) (a : Nat) (c : Bool) (k : Nat) : Bool := if d ≤ 18 then (if k = 0 then c else carS d w a k) else c

theorem rshift_from {a0 n : Nat} {d w : Int} {was : Fl} (hd : 16 ≤ d ∧ d ≤ 20) (A : Nat) (hA : A < PW w) (k : Nat) (hk : k < 1000) (h0 : 0 < k) (res : Int × Fl)
    (hres : res = if d = 16 then shlF w A k else if d = 17 then shrF w A k else if d = 18 then sarF w A k else if d = 19 then rolF w A k was else rorF w A k was) :
    ∀ (e i : Nat), k = i + e → Ends (step41 (d, (w, ((a0 : Int), ((n : Int), was))))) res (step41 (d, (w, ((a0 : Int), ((n : Int), was)))) (.h0 (A : Int) (k : Int) ((valS d w A i : Nat) : Int) (i : Int) (carT d w A was.1 i))) := by
  have hp64 := pw_le w
  have hv : ∀ i, valS d w A i < 18446744073709551616 := fun i => Nat.lt_of_lt_of_le (valS_lt hA) hp64
  have sh1 : ∀ x : Nat, ishl .u64 (x : Int) 1 = ((x * 2 % 18446744073709551616 : Nat) : Int) := fun x => by have := ishl_u64 (a := x) (k := 1) (by decide); simpa using this
  have hdc : d = 16 ∨ d = 17 ∨ d = 18 ∨ d = 19 ∨ d = 20 := by omega
  intro e
  induction e with
  | zero =>
    intro i hi
    obtain rfl : i = k := by omega
    have hc : ilt (i : Int) (i : Int) = false := by simp [ilt]
    have hl := rlogic_eq (hv i) w
    have hz : i ≠ 0 := by omega
    rw [hres]
    rcases hdc with rfl | rfl | rfl | rfl | rfl
    · have hv16 : valS 16 w A i = shlN A w i := rfl
      have hcar : carT 16 w A was.1 i = sg (shlN A w (i - 1)) w := by unfold carT; rw [if_pos (by decide), if_neg hz]; rfl
      rw [hv16] at hl
      rw [if_pos rfl]
      simp only [step41, hc, show ieq 16 19 = false by decide, show ieq 16 20 = false by decide, show ieq 16 16 = true by decide, show ieq 16 17 = false by decide, hcar, hv16, hl.2]
      refine .no _ _ (.no _ _ (.no _ _ (.need _ _ hl.1 (.yes _ _ ?_))))
      unfold shlF flagsOf
      cases hq : (!(sg (shlN A w i) w == sg (shlN A w (i - 1)) w))
      · exact .yes _ _ (.no _ _ .ret)
      · exact .no _ _ .ret
    · have hv17 : valS 17 w A i = A / 2 ^ i := rfl
      have hcar : carT 17 w A was.1 i = decide (A / 2 ^ (i - 1) % 2 = 1) := by unfold carT; rw [if_pos (by decide), if_neg hz]; rfl
      rw [hv17] at hl
      rw [if_neg (by decide), if_pos rfl]
      simp only [step41, hc, show ieq 17 19 = false by decide, show ieq 17 20 = false by decide, show ieq 17 16 = false by decide, show ieq 17 17 = true by decide, hcar, hv17, rsign_eq, hl.2]
      exact .no _ _ (.no _ _ (.no _ _ (.need _ _ hl.1 (.no _ _ (.yes _ _ (.need _ _ (rsign_ok _ _) .ret))))))
    · have hv18 : valS 18 w A i = sarN w A i := rfl
      have hcar : carT 18 w A was.1 i = decide (sx A w / 2 ^ (i - 1) % 2 = 1) := by unfold carT; rw [if_pos (by decide), if_neg hz]; rfl
      rw [hv18] at hl
      rw [if_neg (by decide), if_neg (by decide), if_pos rfl]
      simp only [step41, hc, show ieq 18 19 = false by decide, show ieq 18 20 = false by decide, show ieq 18 16 = false by decide, show ieq 18 17 = false by decide, hcar, hv18, hl.2]
      exact .no _ _ (.no _ _ (.no _ _ (.need _ _ hl.1 (.no _ _ (.no _ _ .ret)))))
    · have hv19 : valS 19 w A i = turn A i w := rfl
      rw [if_neg (by decide), if_neg (by decide), if_neg (by decide), if_pos rfl]
      simp only [step41, hc, show ieq 19 19 = true by decide, hv19, rsign_eq, low_one]
      exact .no _ _ (.yes _ _ (.need _ _ (rsign_ok _ _) .ret))
    · have hv20 : valS 20 w A i = turn A (-(i : Int)) w := rfl
      have hx : (!(sg (turn A (-(i : Int)) w) w == sg (turn A (-(i : Int)) w * 2 % 18446744073709551616) w)) = sg (turn A (-(i : Int)) w ^^^ (turn A (-(i : Int)) w * 2 % 18446744073709551616)) w := by
        rw [sg_bit (_ ^^^ _), Nat.testBit_xor, ← sg_bit, ← sg_bit]
        cases sg (turn A (-(i : Int)) w) w <;> cases sg (turn A (-(i : Int)) w * 2 % 18446744073709551616) w <;> rfl
      rw [if_neg (by decide), if_neg (by decide), if_neg (by decide), if_neg (by decide)]
      simp only [step41, hc, show ieq 20 19 = false by decide, show ieq 20 20 = true by decide, hv20, rsign_eq, sh1]
      refine .no _ _ (.no _ _ (.yes _ _ (.need _ _ (rsign_ok _ _) (.need _ _ (by decide) (.need _ _ (rsign_ok _ _) ?_)))))
      rw [hx]
      exact .ret
  | succ e ih =>
    intro i hi
    have hc : ilt (i : Int) (k : Int) = true := by simp [ilt]; omega
    have nx := ih (i + 1) (by omega)
    have ni := next_i64 (i := i) (by omega)
    have hvi := hv i
    have hlt := valS_lt (d := d) (k := i) hA
    have hstep : valS d w (valS d w A i) 1 = valS d w A (i + 1) := valS_valS
    have hcs : carS d w (valS d w A i) 1 = carS d w A (i + 1) := carS_carS (by decide)
    rcases hdc with rfl | rfl | rfl | rfl | rfl
    · have e1 : fn21 (ishl .u64 ((valS 16 w A i : Nat) : Int) 1, w) = ((valS 16 w A (i + 1) : Nat) : Int) := by
        rw [sh1, rcut_eq (Nat.mod_lt _ (by decide)), mod_64_cut, ← hstep]; congr 1
      have e2 : sg (valS 16 w A i) w = carT 16 w A was.1 (i + 1) := by
        unfold carT; rw [if_pos (by decide), if_neg (by omega), ← hcs]
        change _ = sg (shlN (valS 16 w A i) w 0) w
        unfold shlN; rw [Nat.pow_zero, Nat.mul_one, Nat.mod_eq_of_lt hlt]
      simp only [step41, hc, rsign_eq, show ieq 16 16 = true by decide, e1, ni, e2]
      exact .yes _ _ (.need _ _ (rsign_ok _ _) (.yes _ _ (.need _ _ (by decide) (.need _ _ (rcut_ok _ _) (.jump _ nx)))))
    · have e1 : ishr .u64 ((valS 17 w A i : Nat) : Int) 1 = ((valS 17 w A (i + 1) : Nat) : Int) := by
        rw [shr_one, ← hstep]; congr 1
      have e2 : decide (valS 17 w A i % 2 = 1) = carT 17 w A was.1 (i + 1) := by
        unfold carT; rw [if_pos (by decide), if_neg (by omega), ← hcs]
        change _ = decide (valS 17 w A i / 2 ^ 0 % 2 = 1)
        rw [Nat.pow_zero, Nat.div_one]
      simp only [step41, hc, show ieq 17 16 = false by decide, show ieq 17 17 = true by decide, e1, ni, low_one, e2]
      exact .yes _ _ (.need _ _ (rsign_ok _ _) (.no _ _ (.yes _ _ (.need _ _ (by decide) (.jump _ nx)))))
    · have hex := rext_eq hvi w
      have s1 : ishr .i64 (sx (valS 18 w A i) w) 1 = sx (valS 18 w A i) w / 2 ^ 1 := ishr_i64 (k := 1) (by decide)
      have e1 : fn21 (iconv .u64 (sx (valS 18 w A i) w / 2 ^ 1), w) = ((valS 18 w A (i + 1) : Nat) : Int) := by
        rw [← hstep]
        have h1 := cut_int (sx (valS 18 w A i) w / 2 ^ 1) w
        have hz : ∃ z : Nat, iconv .u64 (sx (valS 18 w A i) w / 2 ^ 1) = (z : Int) ∧ z < 18446744073709551616 := by
          unfold iconv; rw [wrap_u64]; exact ⟨_, (Int.toNat_of_nonneg (by omega)).symm, by omega⟩
        obtain ⟨z, ez, hz⟩ := hz
        rw [ez] at h1 ⊢
        rw [cut_eq hz] at h1
        rw [rcut_eq hz, h1]; rfl
      have e2 : decide (valS 18 w A i % 2 = 1) = carT 18 w A was.1 (i + 1) := by
        unfold carT; rw [if_pos (by decide), if_neg (by omega), ← hcs]
        change _ = decide (sx (valS 18 w A i) w / 2 ^ 0 % 2 = 1)
        rw [Int.pow_zero, Int.ediv_one, decide_eq_decide]
        have e2T := PW_two w
        have hw := wd_pos w
        unfold sx
        rw [cut_small hlt]
        split <;> omega
      simp only [step41, hc, show ieq 18 16 = false by decide, show ieq 18 17 = false by decide, show ieq 18 18 = true by decide, hex.2, sx_eq, s1, e1, ni, low_one, e2]
      exact .yes _ _ (.need _ _ (rsign_ok _ _) (.no _ _ (.no _ _ (.yes _ _ (.need _ _ hex.1 (.need _ _ (by decide) (.need _ _ (rcut_ok _ _) (.jump _ nx))))))))
    · have e1 : fn64 (((valS 19 w A i : Nat) : Int), (1, w)) = ((valS 19 w A (i + 1) : Nat) : Int) := by
        rw [rturn_eq hvi, ← hstep]; rfl
      have e2 : carT 19 w A was.1 i = carT 19 w A was.1 (i + 1) := by unfold carT; rw [if_neg (by decide), if_neg (by decide)]
      have hok := rturn_ok hvi 1 w
      simp only [step41, hc, show ieq 19 16 = false by decide, show ieq 19 17 = false by decide, show ieq 19 18 = false by decide, show ieq 19 19 = true by decide, e1, ni, e2]
      exact .yes _ _ (.need _ _ (rsign_ok _ _) (.no _ _ (.no _ _ (.no _ _ (.yes _ _ (.need _ _ hok (.jump _ nx)))))))
    · have e1 : fn64 (((valS 20 w A i : Nat) : Int), (-1, w)) = ((valS 20 w A (i + 1) : Nat) : Int) := by
        rw [rturn_eq hvi, ← hstep]; rfl
      have e2 : carT 20 w A was.1 i = carT 20 w A was.1 (i + 1) := by unfold carT; rw [if_neg (by decide), if_neg (by decide)]
      have hok := rturn_ok hvi (-1) w
      simp only [step41, hc, show ieq 20 16 = false by decide, show ieq 20 17 = false by decide, show ieq 20 18 = false by decide, show ieq 20 19 = false by decide, show ieq 20 20 = true by decide, e1, ni, e2]
      exact .yes _ _ (.need _ _ (rsign_ok _ _) (.no _ _ (.no _ _ (.no _ _ (.no _ _ (.yes _ _ (.need _ _ hok (.jump _ nx))))))))
end Go.Eng.RA
end
section
/- The plain law of AluTells. -/
namespace Go.Eng.RA
open Go.Eng
set_option maxRecDepth 100000

theorem rshift_ends {a n : Nat} (ha : a < 18446744073709551616) (hn : n < 256) (d w : Int) (was : Fl) :
    Ends (step41 (d, (w, ((a : Int), ((n : Int), was))))) (shiftF d w a n was) (tree41 (d, (w, ((a : Int), ((n : Int), was))))) := by
  have hc := count_eq hn w
  have hA : cut a w < PW w := cut_lt a w
  have hk : cnt w n < 1000 := by unfold cnt; split <;> omega
  have ned : ∀ z : Int, ine d z = !decide (d = z) := fun z => by
    have : ine d z = !(ieq d z) := rfl
    rw [this, ieq_dec]
  unfold tree41
  simp only [hc.2, ieq_zero, ned, rcut_eq ha]
  refine .need _ _ hc.1 (.need _ _ (rcut_ok _ _) ?_)
  by_cases hz : cnt w n = 0
  · rw [decide_eq_true hz]
    refine .no _ _ ?_
    have : shiftF d w a n was = ((cut a w : Int), was) := by unfold shiftF; rw [if_pos hz]
    rw [this]; exact .ret
  · rw [decide_eq_false hz]
    refine .yes _ _ ?_
    have go : ∀ (_ : 16 ≤ d ∧ d ≤ 20), Ends (step41 (d, (w, ((a : Int), ((n : Int), was))))) (shiftF d w a n was) (step41 (d, (w, ((a : Int), ((n : Int), was)))) (.h0 (cut a w : Int) (cnt w n : Int) (cut a w : Int) 0 was.1)) := by
      intro hd
      have h := rshift_from (a0 := a) (n := n) (was := was) hd (cut a w) hA (cnt w n) hk (by omega) (shiftF d w a n was) (by
        unfold shiftF
        rw [if_neg hz]
        have hdc : d = 16 ∨ d = 17 ∨ d = 18 ∨ d = 19 ∨ d = 20 := by omega
        rcases hdc with rfl | rfl | rfl | rfl | rfl <;> rfl) (cnt w n) 0 (by omega)
      have e1 : valS d w (cut a w) 0 = cut a w := valS_zero hA
      have e2 : carT d w (cut a w) was.1 0 = was.1 := by unfold carT; split <;> rfl
      rw [e1, e2] at h
      exact h
    by_cases d1 : d = 16
    · have hd : 16 ≤ d ∧ d ≤ 20 := by omega
      rw [decide_eq_true d1]
      exact .no _ _ (.jump _ (go hd))
    · rw [decide_eq_false d1]
      refine .yes _ _ ?_
      by_cases d2 : d = 17
      · have hd : 16 ≤ d ∧ d ≤ 20 := by omega
        rw [decide_eq_true d2]
        exact .no _ _ (.jump _ (go hd))
      · rw [decide_eq_false d2]
        refine .yes _ _ ?_
        by_cases d3 : d = 18
        · have hd : 16 ≤ d ∧ d ≤ 20 := by omega
          rw [decide_eq_true d3]
          exact .no _ _ (.jump _ (go hd))
        · rw [decide_eq_false d3]
          refine .yes _ _ ?_
          by_cases d4 : d = 19
          · have hd : 16 ≤ d ∧ d ≤ 20 := by omega
            rw [decide_eq_true d4]
            exact .no _ _ (.jump _ (go hd))
          · rw [decide_eq_false d4]
            refine .yes _ _ ?_
            by_cases d5 : d = 20
            · have hd : 16 ≤ d ∧ d ≤ 20 := by omega
              rw [decide_eq_true d5]
              exact .no _ _ (.jump _ (go hd))
            · rw [decide_eq_false d5]
              have : shiftF d w a n was = ((cut a w : Int), was) := by
                unfold shiftF; rw [if_neg hz, if_neg d1, if_neg d2, if_neg d3, if_neg d4, if_neg d5]
              rw [this]
              exact .yes _ _ .ret

theorem rshift_eq {a n : Nat} (ha : a < 18446744073709551616) (hn : n < 256) (d w : Int) (was : Fl) :
    pre41 (d, (w, ((a : Int), ((n : Int), was)))) ∧ fn41 (d, (w, ((a : Int), ((n : Int), was)))) = shiftF d w a n was :=
  ⟨⟨_, rshift_ends ha hn d w was⟩, endVal_eq (rshift_ends ha hn d w was)⟩

theorem ine_self (z : Int) : ine z z = false := by unfold ine; simp

abbrev domTells : TC := .st (.int .u8) (.st (.int .i64) (.st (.int .u64) (.st (.int .u64) (.st (.int .u64) (.st .bool (.st (.int .u8) (.st1 (.st .bool (.st .bool (.st .bool (.st .bool (.st1 .bool))))))))))))

theorem aluTells_plain (x : domTells.den) (hx : domTells.wf x) : pre11 x ∧ fn11 x = true := by
  obtain ⟨d0, w, x2, x3, x4, c, x6, was⟩ := x
  obtain ⟨a, rfl, ha⟩ := u64_nat hx.2.2.1
  obtain ⟨b, rfl, hb⟩ := u64_nat hx.2.2.2.1
  obtain ⟨d, rfl, hd⟩ := u64_nat hx.2.2.2.2.1
  obtain ⟨n, rfl, hn⟩ := u8_nat hx.2.2.2.2.2.2.1
  have hwk := wakes13
  have h27 := aadd_eq ha hb w c
  have h32 := rAdd_eq (a := a) (b := b) w c
  have h26 := asub_eq ha hb w c
  have h33 := rSub_eq (a := a) (b := b) w c
  have h34 := logic_eq ha w
  have h35 := rlogic_eq ha w
  have hin := inc_eq ha w was
  have hde := dec_eq ha w was
  have h28 := aneg_eq ha w
  have h40 := rneg_eq a w
  have h30 := shift_eq ha hn d0 w was
  have h41 := rshift_eq ha hn d0 w was
  have h31 := imul_eq ha hb w
  have h42 := rimul_eq ha hb w
  have h24 := mul_eq ha hb w
  have h43 := rmul_eq ha hb w
  have h22 := div_eq ha hb hd w
  have h44 := rdiv_eq ha hb hd w
  unfold pre11 fn11 tree11 Tr.ok
  simp only [h27.2, h32.2, h26.2, h33.2, h34.2, h35.2, hin.2.1, hin.2.2.2, hde.2.1, hde.2.2.2, h28.2, h40.2, h30.2, h41.2, h31.2, h42.2, h24.2, h43.2, h22.2, h44.2, ine_self, ieq_self, beq_self_eq_true, Bool.and_self, Bool.true_and, Bool.and_true, Bool.not_true, Tr.wp, Tr.val, cond_true, cond_false]
  exact ⟨⟨h27.1, h32.1, h26.1, h33.1, h34.1, h35.1, hin.1, hin.2.2.1, hde.1, hde.2.2.1, h28.1, h40.1, h30.1, h41.1, h31.1, h42.1, h24.1, h43.1, h22.1, h44.1, hwk.1, trivial⟩, hwk.2⟩
end Go.Eng.RA
end
