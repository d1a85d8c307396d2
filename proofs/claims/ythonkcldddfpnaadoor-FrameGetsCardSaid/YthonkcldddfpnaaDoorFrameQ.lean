/- A frame's words as sums; what is in none of the fields. -/
import Derived.Test.YthonkcldddfpnaaDoorFrameF
namespace Go.Proofs.YthonkcldddfpnaaDoor.FrameQ
open Go Go.Proofs.YthonkcldddfpnaaDoor.PFrameGets Go.Proofs.YthonkcldddfpnaaDoor.FieldMath Go.Proofs.YthonkcldddfpnaaDoor.FrameF
set_option linter.unusedVariables false

theorem putN_add (w a n x : Nat) (h : a + n ≤ 64) (hw : w < 2 ^ a) (hx : x < 2 ^ n) : putN w a n x = w + x * 2 ^ a := by
  have ha : 2 ^ a ≤ 2 ^ 64 := Nat.pow_le_pow_right (by decide) (by omega)
  apply Nat.eq_of_testBit_eq
  intro i
  rw [putN_bit h (by omega)]
  have hmin : min x (2 ^ n - 1) = x := by omega
  have e : w + x * 2 ^ a = (x <<< a) ||| w := by
    rw [← Nat.shiftLeft_add_eq_or_of_lt hw, Nat.shiftLeft_eq, Nat.add_comm]
  rw [e, Nat.testBit_or, Nat.testBit_shiftLeft, hmin]
  unfold inF
  by_cases h1 : a ≤ i
  · have hwi : w.testBit i = false := Nat.testBit_lt_two_pow (Nat.lt_of_lt_of_le hw (Nat.pow_le_pow_right (by decide) h1))
    by_cases h2 : i < a + n
    · simp [h1, h2, hwi]
    · have hxi : x.testBit (i - a) = false := Nat.testBit_lt_two_pow (Nat.lt_of_lt_of_le hx (Nat.pow_le_pow_right (by decide) (by omega)))
      simp [h1, h2, hwi, hxi]
  · simp [h1]
theorem and_step (x a n : Nat) (h : a + n ≤ 64) (hx : x < 2 ^ 64) : (x / 2 ^ a * 2 ^ a) &&& (2 ^ 64 - 1 - mask a n) = x / 2 ^ (a + n) * 2 ^ (a + n) := by
  have tb : ∀ m i, (x / 2 ^ m * 2 ^ m).testBit i = (decide (m ≤ i) && x.testBit i) := by
    intro m i
    rw [← Nat.shiftRight_eq_div_pow, ← Nat.shiftLeft_eq, Nat.testBit_shiftLeft]
    by_cases hm : m ≤ i
    · simp [hm, Nat.testBit_shiftRight]
    · simp [hm]
  apply Nat.eq_of_testBit_eq
  intro i
  rw [Nat.testBit_and, tb, tb, testBit_not _ _ (mask_lt h), mask_bit]
  unfold inF
  by_cases h64 : i < 64
  · by_cases h1 : a ≤ i
    · by_cases h2 : i < a + n
      · simp [h1, h2, h64, show ¬ a + n ≤ i by omega]
      · simp [h1, h2, h64, show a + n ≤ i by omega]
    · simp [h1, h64, show ¬ a + n ≤ i by omega]
  · have hxi : x.testBit i = false := Nat.testBit_lt_two_pow (Nat.lt_of_lt_of_le hx (Nat.pow_le_pow_right (by decide) (by omega)))
    simp [hxi]
theorem rest8 (x : Nat) (hx : x < 2 ^ 64) : restN x [(0, 4), (4, 4), (8, 4), (12, 8), (20, 4), (24, 1), (25, 1), (26, 24)] = x / 1125899906842624 * 1125899906842624 := by
  have s := fun a n h => and_step x a n h hx
  have s0 := s 0 4 (by decide)
  rw [Nat.pow_zero, Nat.div_one, Nat.mul_one] at s0
  simp only [restN]
  rw [s0, s 4 4 (by decide), s 8 4 (by decide), s 12 8 (by decide), s 20 4 (by decide), s 24 1 (by decide), s 25 1 (by decide), s 26 24 (by decide)]
theorem rest1 (x : Nat) (hx : x < 2 ^ 64) : restN x [(0, 16)] = x / 65536 * 65536 := by
  have s0 := and_step x 0 16 (by decide) hx
  rw [Nat.pow_zero, Nat.div_one, Nat.mul_one] at s0
  simp only [restN]
  rw [s0]
def okF (k c v s g t q : Nat) : Bool := decide (1 ≤ k ∧ k ≤ 10 ∧ c ≤ 3 ∧ v ≤ 3 ∧ s ≤ 15 ∧ g ≤ 16777215 ∧ t ≤ 15 ∧ q ≤ 65535)
theorem may_nat (k c v s g ca t q u : Nat) (b d : Bool) : frame_May.f k c v s g ca t b d q u = some (okF k c v s g t q) := by
  rw [frame_may_eq]
  unfold okF
  congr 1
  rw [decide_eq_decide]
  omega
theorem refmay_nat (k c v s g ca t q u : Nat) (b d : Bool) : cablewayref05_May.f k c v s g ca t b d q u = some (okF k c v s g t q) := by
  rw [ref_may_eq]
  unfold okF
  congr 1
  rw [decide_eq_decide]
  omega
def nB (b : Bool) : Nat := if b = true then 1 else 0
theorem nB_lt (b : Bool) : nB b < 2 := by cases b <;> decide
/-- A frame's first word. -/
def word0 (k c v s g t : Nat) (b d : Bool) : Nat := k + 16 * c + 256 * v + 4096 * s + 1048576 * t + 16777216 * nB b + 33554432 * nB d + 67108864 * g
theorem word0_lt {k c v s g t q : Nat} {b d : Bool} (h : okF k c v s g t q = true) : word0 k c v s g t b d < 1125899906842624 := by
  have := of_decide_eq_true h
  have := nB_lt b
  have := nB_lt d
  unfold word0
  omega
theorem chain {k c v s g t q : Nat} {b d : Bool} (h : okF k c v s g t q = true) : putN (putN (putN (putN (putN (putN (putN (putN 0 0 4 k) 4 4 c) 8 4 v) 12 8 s) 20 4 t) 24 1 (nB b)) 25 1 (nB d)) 26 24 g = word0 k c v s g t b d := by
  have h0 := of_decide_eq_true h
  have hb := nB_lt b
  have hd := nB_lt d
  rw [putN_add 0 0 4 k (by decide) (by decide) (by omega)]
  simp only [Nat.pow_zero, Nat.mul_one, Nat.zero_add]
  rw [putN_add k 4 4 c (by decide) (by omega) (by omega), putN_add _ 8 4 v (by decide) (by omega) (by omega), putN_add _ 12 8 s (by decide) (by omega) (by omega), putN_add _ 20 4 t (by decide) (by omega) (by omega),
    putN_add _ 24 1 _ (by decide) (by omega) (by omega), putN_add _ 25 1 _ (by decide) (by omega) (by omega), putN_add _ 26 24 g (by decide) (by omega) (by omega)]
  unfold word0
  omega
theorem gets {k c v s g t q : Nat} {b d : Bool} (h : okF k c v s g t q = true) : getN (word0 k c v s g t b d) 0 4 = k ∧ getN (word0 k c v s g t b d) 4 4 = c ∧ getN (word0 k c v s g t b d) 8 4 = v ∧ getN (word0 k c v s g t b d) 12 8 = s ∧
    getN (word0 k c v s g t b d) 20 4 = t ∧ getN (word0 k c v s g t b d) 24 1 = nB b ∧ getN (word0 k c v s g t b d) 25 1 = nB d ∧ getN (word0 k c v s g t b d) 26 24 = g := by
  have h0 := of_decide_eq_true h
  have hb := nB_lt b
  have hd := nB_lt d
  unfold getN word0
  simp only [Nat.reducePow]
  refine ⟨?_, ?_, ?_, ?_, ?_, ?_, ?_, ?_⟩ <;> omega
/-- The word of what is got is the word again, if no other bit is in it. -/
theorem back (x : Nat) (hx : x < 1125899906842624) (b d : Bool) (hb : nB b = getN x 24 1) (hd : nB d = getN x 25 1) : word0 (getN x 0 4) (getN x 4 4) (getN x 8 4) (getN x 12 8) (getN x 26 24) (getN x 20 4) b d = x := by
  unfold word0
  rw [hb, hd]
  unfold getN
  simp only [Nat.reducePow]
  omega
end Go.Proofs.YthonkcldddfpnaaDoor.FrameQ
