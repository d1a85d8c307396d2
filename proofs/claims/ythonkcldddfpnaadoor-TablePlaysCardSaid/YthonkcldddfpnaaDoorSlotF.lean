/- The words of a slot: fields' functions as numbers in some bits of a word. -/
import Derived.Test.YthonkcldddfpnaaDoorPSlotWordsx1
import Derived.Test.YthonkcldddfpnaaDoorAid
import Derived.Test.YthonkcldddfpnaaDoorFieldMath
import Derived.KernelRfl
namespace Go.Proofs.YthonkcldddfpnaaDoor.SlotF
open Go.RowKit Go.Proofs.YthonkcldddfpnaaDoor.PSlotWords Go.Proofs.YthonkcldddfpnaaDoorW.PrintWords Go.Proofs.YthonkcldddfpnaaDoorW.PrintLast Go.Proofs.YthonkcldddfpnaaDoor.Aid Go.Proofs.YthonkcldddfpnaaDoor.FieldMath
theorem fMay_eq (a n : Int) : field_Field_May.f a n = some (decide (0 ≤ a ∧ a < 64 ∧ 1 ≤ n ∧ n ≤ 64 - a)) := by
  unfold field_Field_May.f
  by_cases h0 : a ≥ 0
  · by_cases h2 : n ≥ 1
    · by_cases h1 : a < 64
      · rw [if_pos h0, if_pos h2, if_pos h1, w64 _ (by omega) (by omega)]
        congr 1
        rw [Bool.eq_iff_iff]; simp; omega
      · rw [if_pos h0, if_pos h2, if_neg h1]; simp; omega
    · rw [if_pos h0, if_neg h2]; simp; omega
  · rw [if_neg h0]; simp; omega

theorem most_val (n : Nat) (h1 : 1 ≤ n) (h : n ≤ 64) : shr .u64 18446744073709551615 (64 - (n : Int)) = ((2 ^ n - 1 : Nat) : Int) := by
  unfold shr
  rw [show min ((64 - (n : Int)).toNat) IntKind.u64.bits = 64 - n by show min _ 64 = _; omega]
  have e : (18446744073709551615 : Nat) / 2 ^ (64 - n) = 2 ^ n - 1 := by
    have hp := Nat.two_pow_pos (64 - n)
    have hs : 2 ^ n * 2 ^ (64 - n) = 2 ^ 64 := by rw [← Nat.pow_add]; congr 1; omega
    have hq := Nat.two_pow_pos n
    rw [Nat.div_eq_iff hp]
    have hm : (2 ^ n - 1) * 2 ^ (64 - n) = 2 ^ 64 - 2 ^ (64 - n) := by rw [Nat.sub_mul, hs, Nat.one_mul]
    have hle : 2 ^ (64 - n) ≤ 2 ^ 64 := Nat.pow_le_pow_right (by decide) (by omega)
    omega
  have := congrArg (fun x : Nat => (x : Int)) e
  simpa using this

theorem fMost_eq (a n : Nat) (ha : a + n ≤ 64) (h1 : 1 ≤ n) : field_Field_Most.f a n = some ((2 ^ n - 1 : Nat) : Int) := by
  have hd : decide ((0 : Int) ≤ a ∧ (a : Int) < 64 ∧ (1 : Int) ≤ n ∧ (n : Int) ≤ 64 - a) = true := by simp; omega
  unfold field_Field_Most.f
  rw [fMay_eq, hd]
  simp only [Option.bind_some, if_true]
  rw [w64 _ (by omega) (by omega), if_pos (by omega), most_val n h1 (by omega)]

theorem shl_val (x a : Nat) (h : x * 2 ^ a < 2 ^ 64) (ha : a < 64) : shl .u64 (x : Int) (a : Int) = ((x * 2 ^ a : Nat) : Int) := by
  unfold shl
  rw [show min (((a : Nat) : Int).toNat) IntKind.u64.bits = a by show min _ 64 = _; omega]
  have e : (x : Int) * 2 ^ a = ((x * 2 ^ a : Nat) : Int) := by simp
  rw [e]
  exact wrap_u64_in _ (by omega) (by omega)

theorem fMask_eq (a n : Nat) (ha : a + n ≤ 64) (h1 : 1 ≤ n) : field_Field_mask.f a n = some ((mask a n : Nat) : Int) := by
  have hd : decide ((0 : Int) ≤ a ∧ (a : Int) < 64 ∧ (1 : Int) ≤ n ∧ (n : Int) ≤ 64 - a) = true := by simp; omega
  unfold field_Field_mask.f
  rw [fMay_eq, hd]
  simp only [Option.bind_some, if_true]
  rw [fMost_eq a n ha h1]
  simp only [Option.bind_some]
  rw [if_pos (by omega), shl_val _ _ (mask_lt ha) (by omega)]
  rfl

theorem fMask_none (a n : Int) (h : ¬ (0 ≤ a ∧ a < 64 ∧ 1 ≤ n ∧ n ≤ 64 - a)) : field_Field_mask.f a n = some 0 := by
  unfold field_Field_mask.f
  rw [fMay_eq, decide_eq_false h]
  rfl
theorem shr_val (x a : Nat) (ha : a < 64) : shr .u64 (x : Int) (a : Int) = ((x / 2 ^ a : Nat) : Int) := by
  unfold shr
  rw [show min (((a : Nat) : Int).toNat) IntKind.u64.bits = a by show min _ 64 = _; omega]
  simp

theorem fGet_eq (w a n : Nat) (ha : a + n ≤ 64) (h1 : 1 ≤ n) (hw : w < 2 ^ 64) : field_Field_Get.f a n w = some ((getN w a n : Nat) : Int) := by
  have hd : decide ((0 : Int) ≤ a ∧ (a : Int) < 64 ∧ (1 : Int) ≤ n ∧ (n : Int) ≤ 64 - a) = true := by simp; omega
  have hn64 : 2 ^ n - 1 < 2 ^ 64 := by have := Nat.pow_le_pow_right (show 0 < 2 by decide) (show n ≤ 64 by omega); have := Nat.two_pow_pos n; omega
  unfold field_Field_Get.f
  rw [fMay_eq, hd]
  simp only [Option.bind_some, if_true]
  rw [if_pos (by omega), fMost_eq a n ha h1]
  simp only [Option.bind_some]
  rw [shr_val _ _ (by omega), and_u64 _ _ (Nat.lt_of_le_of_lt (Nat.div_le_self _ _) hw) hn64, Nat.and_two_pow_sub_one_eq_mod]
  rfl
theorem fPut_eq (w a n v : Nat) (ha : a + n ≤ 64) (h1 : 1 ≤ n) (hw : w < 2 ^ 64) : field_Field_Put.f a n w v = some ((putN w a n v : Nat) : Int) := by
  have hd : decide ((0 : Int) ≤ a ∧ (a : Int) < 64 ∧ (1 : Int) ≤ n ∧ (n : Int) ≤ 64 - a) = true := by simp; omega
  unfold field_Field_Put.f
  rw [fMay_eq, hd]
  simp only [Option.bind_some, if_true]
  rw [fMask_eq a n ha h1]
  simp only [Option.bind_some]
  rw [fMost_eq a n ha h1]
  simp only [Option.bind_some]
  have hmn : mn (v : Int) ((2 ^ n - 1 : Nat) : Int) = ((min v (2 ^ n - 1) : Nat) : Int) := by unfold mn; split <;> omega
  rw [if_pos (by omega), hmn, shl_val _ _ (min_shift_lt ha) (by omega), andNot_u64 _ _ hw (mask_lt ha), or_u64 _ _ (Nat.and_lt_two_pow _ (by omega)) (min_shift_lt ha)]
  rfl

theorem fPut_none (a n : Int) (w v : Int) (h : ¬ (0 ≤ a ∧ a < 64 ∧ 1 ≤ n ∧ n ≤ 64 - a)) : field_Field_Put.f a n w v = some w := by
  unfold field_Field_Put.f
  rw [fMay_eq, decide_eq_false h]
  rfl

/-- A slot's word. -/
def wordN (g s : Nat) : Nat := putN (putN 0 0 24 g) 24 2 s
def genN (w : Nat) : Nat := w % 16777216
def stN (w : Nat) : Nat := w / 16777216 % 4
theorem getN_gen (w : Nat) : getN w 0 24 = genN w := by unfold getN genN; simp
theorem getN_st (w : Nat) : getN w 24 2 = stN w := by unfold getN stN; rfl
theorem wordN_lt (g s : Nat) : wordN g s < 2 ^ 64 := putN_lt (by decide)
theorem wordN_st (g s : Nat) : stN (wordN g s) = min s 3 := by
  rw [← getN_st]; unfold wordN; rw [getN_putN (by decide) (putN_lt (by decide))]
theorem wordN_gen (g s : Nat) : genN (wordN g s) = min g 16777215 := by
  rw [← getN_gen]
  have e : getN (wordN g s) 0 24 = getN (putN 0 0 24 g) 0 24 := by
    apply Nat.eq_of_testBit_eq
    intro i
    rw [getN_bit, getN_bit]
    unfold wordN
    by_cases hi : i < 24
    · rw [putN_bit (by decide) (putN_lt (by decide))]
      simp only [inF, hi, decide_true, Bool.true_and, Nat.zero_add]
      rw [show decide (24 ≤ i) = false from decide_eq_false (by omega)]
      simp
    · simp [hi]
  rw [e, getN_putN (by decide) (by decide)]
theorem word_f (g s : Nat) : ∃ x : Nat, field_Field_Put.f 0 24 0 g = some (x : Int) ∧ field_Field_Put.f 24 2 x s = some ((wordN g s : Nat) : Int) :=
  ⟨putN 0 0 24 g, fPut_eq 0 0 24 g (by decide) (by decide) (by decide), fPut_eq _ 24 2 s (by decide) (by decide) (putN_lt (by decide))⟩
theorem gen_f (w : Nat) (hw : w < 2 ^ 64) : field_Field_Get.f 0 24 w = some ((genN w : Nat) : Int) := by rw [← getN_gen]; exact fGet_eq w 0 24 (by decide) (by decide) hw
theorem st_f (w : Nat) (hw : w < 2 ^ 64) : field_Field_Get.f 24 2 w = some ((stN w : Nat) : Int) := by rw [← getN_st]; exact fGet_eq w 24 2 (by decide) (by decide) hw
theorem genN_lt (w : Nat) : genN w < 16777216 := Nat.mod_lt _ (by decide)
theorem stN_lt (w : Nat) : stN w < 4 := Nat.mod_lt _ (by decide)
end Go.Proofs.YthonkcldddfpnaaDoor.SlotF
