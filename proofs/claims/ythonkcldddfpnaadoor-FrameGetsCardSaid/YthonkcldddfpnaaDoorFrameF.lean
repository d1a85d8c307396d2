/- A frame's words: fields' functions and the reference's, as numbers in some bits of a word. -/
import Derived.Test.YthonkcldddfpnaaDoorPFrameGetsx2
import Derived.Test.YthonkcldddfpnaaDoorAid
import Derived.Test.YthonkcldddfpnaaDoorFieldMath
import Derived.Test.YthonkcldddfpnaaDoorSlotF
import Derived.KernelRfl
namespace Go.Proofs.YthonkcldddfpnaaDoor.FrameF
open Go.RowKit Go.Proofs.YthonkcldddfpnaaDoor.PFrameGets Go.Proofs.YthonkcldddfpnaaDoorW.PrintWords Go.Proofs.YthonkcldddfpnaaDoorW.PrintLast Go.Proofs.YthonkcldddfpnaaDoor.Aid Go.Proofs.YthonkcldddfpnaaDoor.FieldMath
/-- Are there such bits? -/
theorem refMay_eq (a n : Int) : cablewayref01_May.f a n = some (decide (0 ≤ a ∧ a < 64 ∧ 1 ≤ n ∧ n ≤ 64 - a)) := by
  unfold cablewayref01_May.f
  by_cases h0 : a ≥ 0
  · by_cases h1 : a < 64
    · by_cases h2 : n ≥ 1
      · rw [if_pos h0, if_pos h1, if_pos h2, w64 _ (by omega) (by omega)]
        congr 1
        rw [Bool.eq_iff_iff]; simp; omega
      · rw [if_pos h0, if_pos h1, if_neg h2]; simp; omega
    · rw [if_pos h0, if_neg h1]; simp; omega
  · rw [if_neg h0]; simp; omega

theorem refBit_loop (d : Nat) : ∀ (k j : Nat) (w i : Nat), j + d = i → i < 64 → w < 2 ^ 64 → d < k →
    cablewayref01_Bit.l0 k w i j = some ((w / 2 ^ d % 2 : Nat) : Int) := by
  induction d with
  | zero =>
    intro k j w i h1 h2 h3 hk
    obtain ⟨k, rfl⟩ : ∃ m, k = m + 1 := ⟨k - 1, by omega⟩
    simp only [cablewayref01_Bit.l0]
    rw [if_neg (by omega), Int.tmod_eq_emod_of_nonneg (by omega)]
    simp
  | succ d ih =>
    intro k j w i h1 h2 h3 hk
    obtain ⟨k, rfl⟩ : ∃ m, k = m + 1 := ⟨k - 1, by omega⟩
    simp only [cablewayref01_Bit.l0]
    rw [if_pos (by omega), if_pos (by omega), Int.tdiv_eq_ediv_of_nonneg (by omega), w64 _ (by omega) (by omega)]
    have e : ((w : Int) / 2) = ((w / 2 : Nat) : Int) := by omega
    rw [e, wrap_u64_in _ (by omega) (by omega)]
    have := ih k (j + 1) (w / 2) i (by omega) h2 (by omega) (by omega)
    rw [show ((j : Int) + 1) = ((j + 1 : Nat) : Int) by omega, this, Nat.div_div_eq_div_mul, Nat.pow_succ, Nat.mul_comm]

theorem refBit_eq (k w i : Nat) (hi : i < 64) (hw : w < 2 ^ 64) (hk : 64 ≤ k) : cablewayref01_Bit.f k w i = some ((w / 2 ^ i % 2 : Nat) : Int) := by
  unfold cablewayref01_Bit.f
  exact refBit_loop i k 0 w i (by omega) hi hw (by omega)

theorem refMost_loop (d : Nat) : ∀ (k j n : Nat), j + d = n → n ≤ 64 → d < k →
    cablewayref01_Most.l0 k n ((2 ^ j - 1 : Nat) : Int) j = some ((2 ^ n - 1 : Nat) : Int) := by
  induction d with
  | zero =>
    intro k j n h1 h2 hk
    obtain ⟨k, rfl⟩ : ∃ m, k = m + 1 := ⟨k - 1, by omega⟩
    simp only [cablewayref01_Most.l0]
    rw [if_neg (by omega)]
    have : j = n := by omega
    rw [this]
  | succ d ih =>
    intro k j n h1 h2 hk
    obtain ⟨k, rfl⟩ : ∃ m, k = m + 1 := ⟨k - 1, by omega⟩
    simp only [cablewayref01_Most.l0]
    have hp : 2 ^ (j + 1) ≤ 2 ^ 64 := Nat.pow_le_pow_right (by decide) (by omega)
    have hq := Nat.two_pow_pos j
    have hs : 2 ^ (j + 1) = 2 * 2 ^ j := by rw [Nat.pow_succ, Nat.mul_comm]
    rw [if_pos (by omega), if_pos (by omega), w64 _ (by omega) (by omega)]
    have e : IntKind.u64.wrap (IntKind.u64.wrap (2 * ((2 ^ j - 1 : Nat) : Int)) + 1) = ((2 ^ (j + 1) - 1 : Nat) : Int) := by
      rw [wrap_u64_in (2 * _) (by omega) (by omega), wrap_u64_in _ (by omega) (by omega)]
      omega
    rw [e]
    exact ih k (j + 1) n (by omega) h2 (by omega)

theorem refMost_eq (k n : Nat) (hn : n ≤ 64) (hk : 65 ≤ k) : cablewayref01_Most.f k n = some ((2 ^ n - 1 : Nat) : Int) := by
  unfold cablewayref01_Most.f
  exact refMost_loop n k 0 n (by omega) hn (by omega)

theorem bit_of (w i : Nat) : w / 2 ^ i % 2 = if w.testBit i then 1 else 0 := by
  rw [Nat.testBit_eq_decide_div_mod_eq]
  by_cases h : w / 2 ^ i % 2 = 1
  · simp [h]
  · simp [h]; omega

theorem refPut_loop (w a n v : Nat) (ha : a + n ≤ 64) (hw : w < 2 ^ 64) (hv : v ≤ 2 ^ n - 1) (d : Nat) : ∀ (k out : Nat), d ≤ 64 → out < 2 ^ (64 - d) →
    (∀ t, t < 64 - d → out.testBit t = (putN w a n v).testBit (d + t)) → 70 + d < k →
    cablewayref01_Put.l0 k w a n v out ((d : Int) - 1) = some ((putN w a n v : Nat) : Int) := by
  induction d with
  | zero =>
    intro k out _ h1 h2 hk
    obtain ⟨k, rfl⟩ : ∃ m, k = m + 1 := ⟨k - 1, by omega⟩
    simp only [cablewayref01_Put.l0]
    rw [if_neg (by omega)]
    congr 2
    apply Nat.eq_of_testBit_eq
    intro i
    by_cases hi : i < 64
    · have := h2 i (by omega); rwa [Nat.zero_add] at this
    · rw [Nat.testBit_lt_two_pow (Nat.lt_of_lt_of_le h1 (Nat.pow_le_pow_right (by decide) (by omega))),
        Nat.testBit_lt_two_pow (Nat.lt_of_lt_of_le (putN_lt ha) (Nat.pow_le_pow_right (by decide) (by omega)))]
  | succ d ih =>
    intro k out hd h1 h2 hk
    obtain ⟨k, rfl⟩ : ∃ m, k = m + 1 := ⟨k - 1, by omega⟩
    have hn64 : 2 ^ n - 1 < 2 ^ 64 := by have := Nat.pow_le_pow_right (show 0 < 2 by decide) (show n ≤ 64 by omega); have := Nat.two_pow_pos n; omega
    have e1 : ((d + 1 : Nat) : Int) - 1 = (d : Int) := by omega
    have hmin : min v (2 ^ n - 1) = v := Nat.min_eq_left hv
    have hpw : 2 ^ (64 - d) ≤ 2 ^ 64 := Nat.pow_le_pow_right (by decide) (by omega)
    have hps : 2 ^ (64 - d) = 2 * 2 ^ (64 - (d + 1)) := by rw [show 64 - d = (64 - (d + 1)) + 1 by omega, Nat.pow_succ, Nat.mul_comm]
    have fin : ∀ b : Nat, b = (if (putN w a n v).testBit d then 1 else 0) →
        cablewayref01_Put.l0 k w a n v (IntKind.u64.wrap (IntKind.u64.wrap (2 * (out : Int)) + (b : Int))) (wrap64 ((d : Int) - 1)) = some ((putN w a n v : Nat) : Int) := by
      intro b hb
      have hb1 : b ≤ 1 := by rw [hb]; split <;> omega
      rw [wrap_u64_in (2 * _) (by omega) (by omega), wrap_u64_in _ (by omega) (by omega), w64 _ (by omega) (by omega)]
      rw [show (2 * (out : Int) + (b : Int)) = ((2 * out + b : Nat) : Int) by omega]
      refine ih k (2 * out + b) (by omega) (by omega) (fun t ht => ?_) (by omega)
      cases t with
      | zero =>
        rw [Nat.add_zero, Nat.testBit_zero, hb]
        cases (putN w a n v).testBit d <;> simp <;> omega
      | succ t =>
        rw [Nat.testBit_succ, show (2 * out + b) / 2 = out by omega, h2 t (by omega)]
        congr 1; omega
    simp only [cablewayref01_Put.l0]
    rw [e1, if_pos (by omega), refBit_eq k w d (by omega) hw (by omega)]
    simp only [Option.bind_some]
    by_cases ha1 : a ≤ d
    · rw [if_pos (by omega), w64 ((a : Int) + n) (by omega) (by omega)]
      by_cases ha2 : d < a + n
      · rw [if_pos (by omega), w64 ((d : Int) - a) (by omega) (by omega), show ((d : Int) - (a : Int)) = ((d - a : Nat) : Int) by omega, refBit_eq k v (d - a) (by omega) (by omega) (by omega)]
        simp only [Option.bind_some]
        apply fin
        rw [bit_of, putN_bit ha hw, hmin]
        simp [inF, ha1, ha2]
      · rw [if_neg (by omega)]
        apply fin
        rw [bit_of, putN_bit ha hw]
        simp [inF, ha2]
    · rw [if_neg (by omega)]
      apply fin
      rw [bit_of, putN_bit ha hw]
      simp [inF, ha1]

/-- The reference's word with a number in a field. -/
theorem refPut_eq (k w a n v : Nat) (ha : a + n ≤ 64) (h1 : 1 ≤ n) (hw : w < 2 ^ 64) (hk : 200 ≤ k) : cablewayref01_Put.f k w a n v = some ((putN w a n v : Nat) : Int) := by
  have hd : decide ((0 : Int) ≤ a ∧ (a : Int) < 64 ∧ (1 : Int) ≤ n ∧ (n : Int) ≤ 64 - a) = true := by simp; omega
  obtain ⟨k, rfl⟩ : ∃ m, k = m + 1 := ⟨k - 1, by omega⟩
  unfold cablewayref01_Put.f
  rw [refMay_eq, hd]
  simp only [Option.bind_some, if_true]
  rw [refMost_eq _ n (by omega) (by omega)]
  simp only [Option.bind_some]
  have fin : ∀ u : Nat, u ≤ 2 ^ n - 1 → cablewayref01_Put.j0 (k + 1) w a n u = some ((putN w a n u : Nat) : Int) := by
    intro u hu
    simp only [cablewayref01_Put.j0]
    have := refPut_loop w a n u ha hw hu 64 k 0 (by omega) (by decide) (fun t ht => absurd ht (by omega)) (by omega)
    exact this
  by_cases hv : v ≤ 2 ^ n - 1
  · rw [if_neg (by omega), fin v hv]
  · rw [if_pos (by omega), fin _ (Nat.le_refl _)]
    unfold putN
    rw [Nat.min_self, Nat.min_eq_right (by omega)]
theorem refGet_loop (w a n : Nat) (ha : a + n ≤ 64) (hw : w < 2 ^ 64) (d : Nat) : ∀ (k : Nat), d ≤ n → 70 + d < k →
    cablewayref01_Get.l0 k w a ((w / 2 ^ (a + d) % 2 ^ (n - d) : Nat) : Int) ((d : Int) - 1) = some ((getN w a n : Nat) : Int) := by
  induction d with
  | zero =>
    intro k _ hk
    obtain ⟨k, rfl⟩ : ∃ m, k = m + 1 := ⟨k - 1, by omega⟩
    simp only [cablewayref01_Get.l0]
    rw [if_neg (by omega)]
    rfl
  | succ d ih =>
    intro k hd hk
    obtain ⟨k, rfl⟩ : ∃ m, k = m + 1 := ⟨k - 1, by omega⟩
    simp only [cablewayref01_Get.l0]
    have hlt : w / 2 ^ (a + (d + 1)) % 2 ^ (n - (d + 1)) < 2 ^ (n - (d + 1)) := Nat.mod_lt _ (Nat.two_pow_pos _)
    have hpw : 2 ^ (n - (d + 1)) ≤ 2 ^ 63 := Nat.pow_le_pow_right (by decide) (by omega)
    rw [if_pos (by omega), w64 _ (by omega) (by omega), show ((a : Int) + (((d + 1 : Nat) : Int) - 1)) = ((a + d : Nat) : Int) by omega, refBit_eq k w (a + d) (by omega) hw (by omega)]
    simp only [Option.bind_some]
    rw [w64 _ (by omega) (by omega), show (((d + 1 : Nat) : Int) - 1 - 1) = (d : Int) - 1 by omega]
    have hb : w / 2 ^ (a + d) % 2 ≤ 1 := by omega
    rw [wrap_u64_in (2 * _) (by omega) (by omega), wrap_u64_in _ (by omega) (by omega)]
    have e : 2 * ((w / 2 ^ (a + (d + 1)) % 2 ^ (n - (d + 1)) : Nat) : Int) + ((w / 2 ^ (a + d) % 2 : Nat) : Int) = ((w / 2 ^ (a + d) % 2 ^ (n - d) : Nat) : Int) := by
      rw [show n - d = (n - (d + 1)) + 1 by omega, Nat.pow_succ 2 (n - (d + 1)), Nat.mul_comm (2 ^ (n - (d + 1))) 2, Nat.mod_mul, Nat.div_div_eq_div_mul, ← Nat.pow_succ, show a + (d + 1) = a + d + 1 by omega]
      simp only [Nat.succ_eq_add_one]
      omega
    rw [e]
    exact ih k (by omega) (by omega)

theorem refGet_eq (k w a n : Nat) (ha : a + n ≤ 64) (h1 : 1 ≤ n) (hw : w < 2 ^ 64) (hk : 200 ≤ k) : cablewayref01_Get.f k w a n = some ((getN w a n : Nat) : Int) := by
  have hd : decide ((0 : Int) ≤ a ∧ (a : Int) < 64 ∧ (1 : Int) ≤ n ∧ (n : Int) ≤ 64 - a) = true := by simp; omega
  unfold cablewayref01_Get.f
  rw [refMay_eq, hd]
  simp only [Option.bind_some, if_true]
  rw [w64 _ (by omega) (by omega)]
  have := refGet_loop w a n ha hw n k (Nat.le_refl _) (by omega)
  rwa [Nat.sub_self, Nat.pow_zero, Nat.mod_one] at this
theorem fMay_eq (a n : Int) : field_Field_May.f a n = some (decide (0 ≤ a ∧ a < 64 ∧ 1 ≤ n ∧ n ≤ 64 - a)) := by
  unfold field_Field_May.f
  by_cases h0 : a ≥ 0
  · by_cases h2 : n ≥ 1
    · by_cases h1 : a < 64
      · rw [if_pos h0, if_pos h2, if_pos h1, w64 _ (by omega) (by omega)]
        congr 1
        rw [Bool.eq_iff_iff]; simp; omega
      · rw [if_pos h0, if_pos h2, if_neg h1]; simp; omega
    · rw [if_pos h0, if_neg h2]; simp; omega
  · rw [if_neg h0]; simp; omega

theorem most_val (n : Nat) (h1 : 1 ≤ n) (h : n ≤ 64) : shr .u64 18446744073709551615 (64 - (n : Int)) = ((2 ^ n - 1 : Nat) : Int) := by
  unfold shr
  rw [show min ((64 - (n : Int)).toNat) IntKind.u64.bits = 64 - n by show min _ 64 = _; omega]
  have e : (18446744073709551615 : Nat) / 2 ^ (64 - n) = 2 ^ n - 1 := by
    have hp := Nat.two_pow_pos (64 - n)
    have hs : 2 ^ n * 2 ^ (64 - n) = 2 ^ 64 := by rw [← Nat.pow_add]; congr 1; omega
    have hq := Nat.two_pow_pos n
    rw [Nat.div_eq_iff hp]
    have hm : (2 ^ n - 1) * 2 ^ (64 - n) = 2 ^ 64 - 2 ^ (64 - n) := by rw [Nat.sub_mul, hs, Nat.one_mul]
    have hle : 2 ^ (64 - n) ≤ 2 ^ 64 := Nat.pow_le_pow_right (by decide) (by omega)
    omega
  have := congrArg (fun x : Nat => (x : Int)) e
  simpa using this

theorem fMost_eq (a n : Nat) (ha : a + n ≤ 64) (h1 : 1 ≤ n) : field_Field_Most.f a n = some ((2 ^ n - 1 : Nat) : Int) := by
  have hd : decide ((0 : Int) ≤ a ∧ (a : Int) < 64 ∧ (1 : Int) ≤ n ∧ (n : Int) ≤ 64 - a) = true := by simp; omega
  unfold field_Field_Most.f
  rw [fMay_eq, hd]
  simp only [Option.bind_some, if_true]
  rw [w64 _ (by omega) (by omega), if_pos (by omega), most_val n h1 (by omega)]

theorem shl_val (x a : Nat) (h : x * 2 ^ a < 2 ^ 64) (ha : a < 64) : shl .u64 (x : Int) (a : Int) = ((x * 2 ^ a : Nat) : Int) := by
  unfold shl
  rw [show min (((a : Nat) : Int).toNat) IntKind.u64.bits = a by show min _ 64 = _; omega]
  have e : (x : Int) * 2 ^ a = ((x * 2 ^ a : Nat) : Int) := by simp
  rw [e]
  exact wrap_u64_in _ (by omega) (by omega)

theorem fMask_eq (a n : Nat) (ha : a + n ≤ 64) (h1 : 1 ≤ n) : field_Field_mask.f a n = some ((mask a n : Nat) : Int) := by
  have hd : decide ((0 : Int) ≤ a ∧ (a : Int) < 64 ∧ (1 : Int) ≤ n ∧ (n : Int) ≤ 64 - a) = true := by simp; omega
  unfold field_Field_mask.f
  rw [fMay_eq, hd]
  simp only [Option.bind_some, if_true]
  rw [fMost_eq a n ha h1]
  simp only [Option.bind_some]
  rw [if_pos (by omega), shl_val _ _ (mask_lt ha) (by omega)]
  rfl

theorem fMask_none (a n : Int) (h : ¬ (0 ≤ a ∧ a < 64 ∧ 1 ≤ n ∧ n ≤ 64 - a)) : field_Field_mask.f a n = some 0 := by
  unfold field_Field_mask.f
  rw [fMay_eq, decide_eq_false h]
  rfl
theorem fPut_eq (w a n v : Nat) (ha : a + n ≤ 64) (h1 : 1 ≤ n) (hw : w < 2 ^ 64) : field_Field_Put.f a n w v = some ((putN w a n v : Nat) : Int) := by
  have hd : decide ((0 : Int) ≤ a ∧ (a : Int) < 64 ∧ (1 : Int) ≤ n ∧ (n : Int) ≤ 64 - a) = true := by simp; omega
  unfold field_Field_Put.f
  rw [fMay_eq, hd]
  simp only [Option.bind_some, if_true]
  rw [fMask_eq a n ha h1]
  simp only [Option.bind_some]
  rw [fMost_eq a n ha h1]
  simp only [Option.bind_some]
  have hmn : mn (v : Int) ((2 ^ n - 1 : Nat) : Int) = ((min v (2 ^ n - 1) : Nat) : Int) := by unfold mn; split <;> omega
  rw [if_pos (by omega), hmn, shl_val _ _ (min_shift_lt ha) (by omega), andNot_u64 _ _ hw (mask_lt ha), or_u64 _ _ (Nat.and_lt_two_pow _ (by omega)) (min_shift_lt ha)]
  rfl

theorem fPut_none (a n : Int) (w v : Int) (h : ¬ (0 ≤ a ∧ a < 64 ∧ 1 ≤ n ∧ n ≤ 64 - a)) : field_Field_Put.f a n w v = some w := by
  unfold field_Field_Put.f
  rw [fMay_eq, decide_eq_false h]
  rfl


/-- What is in none of some fields. -/
def restN (w : Nat) : List (Nat × Nat) → Nat
  | [] => w
  | (a, n) :: l => restN (w &&& (2 ^ 64 - 1 - mask a n)) l
def s85 (l : List (Nat × Nat)) : List S85 := l.map fun p => ⟨(p.1 : Int), (p.2 : Int)⟩
theorem rest_loop (l : List (Nat × Nat)) (hl : ∀ p ∈ l, p.1 + p.2 ≤ 64 ∧ 1 ≤ p.2) (hlen : l.length ≤ 1000) (d : Nat) : ∀ (k j w : Nat), j + d = l.length → d < k → w < 2 ^ 64 →
    field_Rest.l0 k (w : Int) (s85 l) (l.length : Int) (j : Int) = some ((restN w (l.drop j) : Nat) : Int) := by
  induction d with
  | zero =>
    intro k j w hj hk hw
    obtain ⟨k, rfl⟩ : ∃ q, k = q + 1 := ⟨k - 1, by omega⟩
    unfold field_Rest.l0
    rw [if_neg (by omega), List.drop_eq_nil_of_le (by omega)]
    rfl
  | succ d ih =>
    intro k j w hj hk hw
    obtain ⟨k, rfl⟩ : ∃ q, k = q + 1 := ⟨k - 1, by omega⟩
    have hjl : j < l.length := by omega
    unfold field_Rest.l0
    rw [if_pos (by omega), if_pos (by omega), if_pos (by simp [s85]; omega)]
    have hget : rd_T85 (s85 l) (j : Int) = ⟨((l[j]).1 : Int), ((l[j]).2 : Int)⟩ := by
      simp [rd_T85, s85, List.getD_eq_getElem?_getD, hjl]
    obtain ⟨h1, h2⟩ := hl _ (List.getElem_mem hjl)
    rw [hget, fMask_eq _ _ h1 h2]
    simp only [Option.bind_some]
    rw [andNot_u64 w _ hw (mask_lt h1), w64 _ (by omega) (by omega), show ((j : Int) + 1) = ((j + 1 : Nat) : Int) by omega]
    rw [ih k (j + 1) _ (by omega) (by omega) (Nat.lt_of_le_of_lt Nat.and_le_left hw)]
    rw [List.drop_eq_getElem_cons hjl]
    rfl
theorem rest_eq (l : List (Nat × Nat)) (hl : ∀ p ∈ l, p.1 + p.2 ≤ 64 ∧ 1 ≤ p.2) (hlen : l.length ≤ 100) (w : Nat) (hw : w < 2 ^ 64) : field_Rest.f 200 (w : Int) (s85 l) = some ((restN w l : Nat) : Int) := by
  unfold field_Rest.f
  have e : (s85 l).length = l.length := by simp [s85]
  rw [e]
  exact rest_loop l hl (by omega) l.length 200 0 w (by omega) (by omega) hw
theorem frame_may_eq (k c v s g ca t : Int) (b d : Bool) (q u : Int) : frame_May.f k c v s g ca t b d q u = some (decide (1 ≤ k ∧ k ≤ 10 ∧ 0 ≤ c ∧ c ≤ 3 ∧ 0 ≤ v ∧ v ≤ 3 ∧ 0 ≤ s ∧ s ≤ 15 ∧ 0 ≤ g ∧ g ≤ 16777215 ∧ 0 ≤ t ∧ t ≤ 15 ∧ 0 ≤ q ∧ q ≤ 65535)) := by
  have hw : ∀ a m, frame_within.f a m = some (decide (0 ≤ a ∧ a ≤ m)) := by
    intro a m
    unfold frame_within.f
    split <;> (congr 1; rw [Bool.eq_iff_iff]; simp; omega)
  unfold frame_May.f
  simp only [hw, Option.bind_some, decide_eq_true_eq]
  repeat' split
  all_goals (congr 1; first | (simp; omega) | (rw [Bool.eq_iff_iff]; simp; omega))
theorem ref_may_eq (k c v s g ca t : Int) (b d : Bool) (q u : Int) : cablewayref05_May.f k c v s g ca t b d q u = some (decide (1 ≤ k ∧ k ≤ 10 ∧ 0 ≤ c ∧ c ≤ 3 ∧ 0 ≤ v ∧ v ≤ 3 ∧ 0 ≤ s ∧ s ≤ 15 ∧ 0 ≤ g ∧ g ≤ 16777215 ∧ 0 ≤ t ∧ t ≤ 15 ∧ 0 ≤ q ∧ q ≤ 65535)) := by
  have hw : ∀ a m, cablewayref05_within.f a m = some (decide (0 ≤ a ∧ a ≤ m)) := by
    intro a m
    unfold cablewayref05_within.f
    split <;> (congr 1; rw [Bool.eq_iff_iff]; simp; omega)
  unfold cablewayref05_May.f
  simp only [hw, Option.bind_some, decide_eq_true_eq]
  repeat' split
  all_goals (congr 1; first | (simp; omega) | (rw [Bool.eq_iff_iff]; simp; omega))
end Go.Proofs.YthonkcldddfpnaaDoor.FrameF
