/- Numbers in some bits of a word: what masks, shifts and joins come to, bit by bit, for all words below 2^64. -/
import Derived.Laws.Entries
import Derived.Laws.BitsLemmas
import Derived.RowKit
import Derived.Test.YthonkcldddfpnaaDoorAid
namespace Go.Proofs.YthonkcldddfpnaaDoor.FieldMath
open Go Go.RowKit Go.Proofs.YthonkcldddfpnaaDoor.Aid

theorem and_u64 (a b : Nat) (ha : a < 2 ^ 64) (hb : b < 2 ^ 64) : bits .and .u64 (a : Int) b = ((a &&& b : Nat) : Int) :=
  (bits_nat .u64 64 (by decide) (fun n h0 h1 => wrap_u64_in n h0 (by omega)) a b ha hb).1
theorem or_u64 (a b : Nat) (ha : a < 2 ^ 64) (hb : b < 2 ^ 64) : bits .or .u64 (a : Int) b = ((a ||| b : Nat) : Int) :=
  (bits_nat .u64 64 (by decide) (fun n h0 h1 => wrap_u64_in n h0 (by omega)) a b ha hb).2
theorem andNot_u64 (a b : Nat) (ha : a < 2 ^ 64) (hb : b < 2 ^ 64) : bits .andNot .u64 (a : Int) b = ((a &&& (2 ^ 64 - 1 - b) : Nat) : Int) := by
  have ha' : a % 2 ^ 64 = a := Nat.mod_eq_of_lt ha
  have hb' : b % 2 ^ 64 = b := Nat.mod_eq_of_lt hb
  have e : (BitVec.ofInt 64 (a : Int) &&& ~~~ BitVec.ofInt 64 (b : Int)).toNat = a &&& (2 ^ 64 - 1 - b) := by
    simp only [BitVec.ofInt_natCast, BitVec.toNat_and, BitVec.toNat_not, BitVec.toNat_ofNat, ha', hb']
  have hlt : a &&& (2 ^ 64 - 1 - b) < 2 ^ 64 := Nat.and_lt_two_pow _ (by omega)
  show IntKind.u64.wrap (((BitVec.ofInt 64 (a : Int) &&& ~~~ BitVec.ofInt 64 (b : Int)).toNat : Nat) : Int) = _
  rw [e]
  exact wrap_u64_in _ (by omega) (by omega)
theorem xor_u64 (a b : Nat) (ha : a < 2 ^ 64) (hb : b < 2 ^ 64) : bits .xor .u64 (a : Int) b = ((a ^^^ b : Nat) : Int) := by
  have ha' : a % 2 ^ 64 = a := Nat.mod_eq_of_lt ha
  have hb' : b % 2 ^ 64 = b := Nat.mod_eq_of_lt hb
  have e : (BitVec.ofInt 64 (a : Int) ^^^ BitVec.ofInt 64 (b : Int)).toNat = a ^^^ b := by
    simp only [BitVec.ofInt_natCast, BitVec.toNat_xor, BitVec.toNat_ofNat, ha', hb']
  have hlt : a ^^^ b < 2 ^ 64 := Nat.xor_lt_two_pow ha hb
  show IntKind.u64.wrap (((BitVec.ofInt 64 (a : Int) ^^^ BitVec.ofInt 64 (b : Int)).toNat : Nat) : Int) = _
  rw [e]
  exact wrap_u64_in _ (by omega) (by omega)

theorem testBit_not (b i : Nat) (hb : b < 2 ^ 64) : (2 ^ 64 - 1 - b).testBit i = (decide (i < 64) && !b.testBit i) := by
  rw [show 2 ^ 64 - 1 - b = 2 ^ 64 - (b + 1) by omega, Nat.testBit_two_pow_sub_succ hb]

/-- The bits of a field. -/
def inF (a n i : Nat) : Bool := decide (a ≤ i) && decide (i < a + n)
def mask (a n : Nat) : Nat := (2 ^ n - 1) * 2 ^ a
theorem mask_bit (a n i : Nat) : (mask a n).testBit i = inF a n i := by
  unfold mask inF
  rw [Nat.testBit_mul_two_pow]
  by_cases h : a ≤ i
  · simp only [h, decide_true, Bool.true_and, Nat.testBit_two_pow_sub_one]
    by_cases h2 : i < a + n
    · simp [h2]; omega
    · simp [h2]; omega
  · simp [h]
theorem mask_lt {a n : Nat} (h : a + n ≤ 64) : mask a n < 2 ^ 64 := by
  unfold mask
  have h1 : 2 ^ n * 2 ^ a = 2 ^ (a + n) := by rw [← Nat.pow_add, Nat.add_comm]
  have h2 : 2 ^ (a + n) ≤ 2 ^ 64 := Nat.pow_le_pow_right (by decide) h
  have h3 := Nat.two_pow_pos n
  have h4 := Nat.two_pow_pos a
  have : (2 ^ n - 1) * 2 ^ a < 2 ^ n * 2 ^ a := Nat.mul_lt_mul_of_pos_right (by omega) h4
  omega

/-- A word in which a field has a number. -/
def putN (w a n v : Nat) : Nat := (w &&& (2 ^ 64 - 1 - mask a n)) ||| (min v (2 ^ n - 1) * 2 ^ a)
theorem min_shift_lt {a n v : Nat} (h : a + n ≤ 64) : min v (2 ^ n - 1) * 2 ^ a < 2 ^ 64 := by
  have := mask_lt h
  unfold mask at this
  exact Nat.lt_of_le_of_lt (Nat.mul_le_mul_right _ (Nat.min_le_right _ _)) this
theorem putN_lt {w a n v : Nat} (h : a + n ≤ 64) : putN w a n v < 2 ^ 64 :=
  Nat.or_lt_two_pow (Nat.and_lt_two_pow _ (by omega)) (min_shift_lt h)
theorem putN_bit {w a n v i : Nat} (h : a + n ≤ 64) (hw : w < 2 ^ 64) :
    (putN w a n v).testBit i = if inF a n i then (min v (2 ^ n - 1)).testBit (i - a) else w.testBit i := by
  have hm := mask_lt h
  unfold putN
  rw [Nat.testBit_or, Nat.testBit_and, testBit_not _ _ hm, mask_bit, Nat.testBit_mul_two_pow]
  have hlt : min v (2 ^ n - 1) < 2 ^ n := by have := Nat.two_pow_pos n; omega
  unfold inF
  by_cases h1 : a ≤ i
  · by_cases h2 : i < a + n
    · simp [h1, h2]
    · have hb : (min v (2 ^ n - 1)).testBit (i - a) = false := Nat.testBit_lt_two_pow (Nat.lt_of_lt_of_le hlt (Nat.pow_le_pow_right (by decide) (by omega)))
      by_cases h3 : i < 64
      · simp [h1, h2, h3, hb]
      · have hwb : w.testBit i = false := Nat.testBit_lt_two_pow (Nat.lt_of_lt_of_le hw (Nat.pow_le_pow_right (by decide) (by omega)))
        simp [h1, h2, hb, hwb]
  · by_cases h3 : i < 64
    · simp [h1, h3]
    · have hwb : w.testBit i = false := Nat.testBit_lt_two_pow (Nat.lt_of_lt_of_le hw (Nat.pow_le_pow_right (by decide) (by omega)))
      simp [h1, hwb]

/-- A field's number. -/
def getN (w a n : Nat) : Nat := w / 2 ^ a % 2 ^ n
theorem getN_bit (w a n i : Nat) : (getN w a n).testBit i = (decide (i < n) && w.testBit (a + i)) := by
  unfold getN
  rw [Nat.testBit_mod_two_pow, Nat.testBit_div_two_pow, Nat.add_comm]
theorem getN_putN {w a n v : Nat} (h : a + n ≤ 64) (hw : w < 2 ^ 64) : getN (putN w a n v) a n = min v (2 ^ n - 1) := by
  apply Nat.eq_of_testBit_eq
  intro i
  rw [getN_bit, putN_bit h hw]
  have hlt : min v (2 ^ n - 1) < 2 ^ n := by have := Nat.two_pow_pos n; omega
  unfold inF
  by_cases hi : i < n
  · simp [hi]
  · have hb : (min v (2 ^ n - 1)).testBit i = false := Nat.testBit_lt_two_pow (Nat.lt_of_lt_of_le hlt (Nat.pow_le_pow_right (by decide) (by omega)))
    simp [hi, hb]
end Go.Proofs.YthonkcldddfpnaaDoor.FieldMath
