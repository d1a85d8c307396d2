/- A time doubled each time, up to a bound: the program's words and the document's are one and the same. -/
import Derived.Test.YtbbaonaahokidaaPBudgetWaitsx1
import Derived.Test.YtbbaonaahokidaaAid
namespace Go.Proofs.Ytbbaonaahokidaa.Twice
open Go.RowKit Go.Proofs.Ytbbaonaahokidaa.PBudgetWaits Go.Proofs.YtbbaonaahokidaaW.PrintWords
set_option linter.unusedVariables false

def dbl (x : Int) : Int := if x ≥ 549755813888 then 1099511627776 else 2 * x
def it : Nat → Int → Int
  | 0, x => x
  | j + 1, x => it j (dbl x)
theorem dbl_in (x : Int) (h : 0 ≤ x ∧ x ≤ 1099511627776) : 0 ≤ dbl x ∧ dbl x ≤ 1099511627776 ∧ x ≤ dbl x := by unfold dbl; split <;> omega
theorem it_in : ∀ (j : Nat) (x : Int), (0 ≤ x ∧ x ≤ 1099511627776) → 0 ≤ it j x ∧ it j x ≤ 1099511627776 ∧ x ≤ it j x
  | 0, x, h => by simp only [it]; omega
  | j + 1, x, h => by
    have h1 := dbl_in x h
    have := it_in j (dbl x) ⟨h1.1, h1.2.1⟩
    simp only [it]; omega
theorem it_zero : ∀ j : Nat, it j 0 = 0
  | 0 => rfl
  | j + 1 => by simp only [it]; exact it_zero j
theorem it_top : ∀ j : Nat, it j 1099511627776 = 1099511627776
  | 0 => rfl
  | j + 1 => by simp only [it]; exact it_top j
theorem two_pos (s : Nat) : (1 : Int) ≤ 2 ^ s := by
  induction s with
  | zero => decide
  | succ s ih => rw [Int.pow_succ]; omega
theorem grows (s : Nat) (x : Int) (h : 0 ≤ x ∧ x ≤ 1099511627776) (hs : (1099511627776 : Int) ≤ 2 ^ (s + 1) * x) : (1099511627776 : Int) ≤ 2 ^ s * dbl x := by
  have hp := two_pos s
  unfold dbl
  split
  · omega
  · rw [Int.pow_succ, Int.mul_assoc] at hs; exact hs
theorem it_big : ∀ (s : Nat) (x : Int), (0 ≤ x ∧ x ≤ 1099511627776) → (1099511627776 : Int) ≤ 2 ^ s * x → ∀ j : Nat, s ≤ j → it j x = 1099511627776
  | 0, x, h, hs, j, hj => by
    have e : x = 1099511627776 := by simp at hs; omega
    rw [e]; exact it_top j
  | s + 1, x, h, hs, 0, hj => by omega
  | s + 1, x, h, hs, j + 1, hj => by
    have h1 := dbl_in x h
    simp only [it]
    exact it_big s (dbl x) ⟨h1.1, h1.2.1⟩ (grows s x h hs) j (by omega)
theorem it_same (x : Int) (h : 0 ≤ x ∧ x ≤ 1099511627776) (i j : Nat) (hi : 40 ≤ i) (hj : 40 ≤ j) : it i x = it j x := by
  by_cases hx : x = 0
  · rw [hx, it_zero, it_zero]
  · have hb : (1099511627776 : Int) ≤ 2 ^ 40 * x := by
      have : (2 : Int) ^ 40 = 1099511627776 := by decide
      rw [this]; omega
    rw [it_big 40 x h hb i hi, it_big 40 x h hb j hj]

theorem clamp_t (x : Int) : ticks_Clamp.f x = some (mn (mx x 0) 1099511627776) := rfl
theorem clamp_in (x : Int) : 0 ≤ mn (mx x 0) 1099511627776 ∧ mn (mx x 0) 1099511627776 ≤ 1099511627776 := by unfold mn mx; split <;> split <;> omega
theorem clamp_id (x : Int) (h : 0 ≤ x ∧ x ≤ 1099511627776) : mn (mx x 0) 1099511627776 = x := by unfold mn mx; split <;> split <;> omega
theorem clamp_r (x : Int) : cablewayref03_Clamp.f x = some (mn (mx x 0) 1099511627776) := by
  unfold cablewayref03_Clamp.f mn mx
  (repeat' split) <;> first | rfl | (exfalso; omega) | (congr 1; omega)
theorem w64 (n : Int) (h0 : -9223372036854775808 ≤ n) (h1 : n ≤ 9223372036854775807) : wrap64 n = n := by
  unfold wrap64; omega
theorem after_t (x : Int) (h : 0 ≤ x ∧ x ≤ 1099511627776) : ticks_After.f x x = some (dbl x) := by
  unfold ticks_After.f
  rw [clamp_t]
  simp only [Option.bind_some, clamp_id x h]
  rw [w64 _ (by omega) (by omega), w64 _ (by omega) (by omega)]
  unfold dbl
  split <;> split <;> first | rfl | (exfalso; omega) | (congr 1; omega)
theorem after_r (x : Int) (h : 0 ≤ x ∧ x ≤ 1099511627776) : cablewayref03_After.f x x = some (dbl x) := by
  unfold cablewayref03_After.f
  rw [clamp_r]
  simp only [Option.bind_some, clamp_id x h]
  rw [w64 _ (by omega) (by omega)]
  unfold dbl
  split <;> split <;> first | rfl | (exfalso; omega) | (congr 1; omega)

theorem loop_t (N b : Int) (hN : 0 ≤ N ∧ N ≤ 9223372036854775806) (hb : 0 ≤ b ∧ b ≤ 1099511627776) : ∀ (s : Nat) (x i : Int), (0 ≤ x ∧ x ≤ 1099511627776) → (x = 0 ∨ (1099511627776 : Int) ≤ 2 ^ s * x) → (0 ≤ i ∧ i ≤ N) →
    ticks_Twice.l0 (s + 1) x N b i = some (mn (it (N - i).toNat x) b)
  | s, x, i, hx, hs, hi => by
    simp only [ticks_Twice.l0]
    by_cases h1 : i < N
    · rw [if_pos h1]
      by_cases h2 : x < b
      · rw [if_pos h2]
        by_cases h3 : x > 0
        · rw [if_pos h3, after_t x hx, Option.bind_some, w64 _ (by omega) (by omega)]
          cases s with
          | zero =>
            exfalso
            rcases hs with h | h
            · omega
            · rw [show (2 : Int) ^ 0 = 1 from rfl] at h; omega
          | succ s =>
            have hd := dbl_in x hx
            have hs' : (1099511627776 : Int) ≤ 2 ^ (s + 1) * x := by rcases hs with h | h; · omega
                                                                     · exact h
            rw [loop_t N b hN hb s (dbl x) (i + 1) ⟨hd.1, hd.2.1⟩ (Or.inr (grows s x hx hs')) ⟨by omega, by omega⟩]
            rw [show (N - i).toNat = (N - (i + 1)).toNat + 1 by omega]
            rfl
        · rw [if_neg h3]
          have e : x = 0 := by omega
          rw [e, it_zero]
      · rw [if_neg h2]
        have := it_in (N - i).toNat x hx
        congr 1
        unfold mn
        split <;> split <;> omega
    · rw [if_neg h1, show (N - i).toNat = 0 by omega]; rfl
theorem loop_r (n b : Int) (hn : 0 ≤ n ∧ n ≤ 99) (hb : 0 ≤ b ∧ b ≤ 1099511627776) : ∀ (s : Nat) (x i : Int), (0 ≤ x ∧ x ≤ 1099511627776) → (0 ≤ i ∧ i ≤ n ∧ i ≤ 64) → (64 - i ≤ s) →
    cablewayref03_Twice.l0 (s + 1) n x b i = some (mn (it ((if n < 64 then n else 64) - i).toNat x) b)
  | s, x, i, hx, hi, hs => by
    simp only [cablewayref03_Twice.l0]
    have fin : (if x > b then some b else some x) = some (mn (it 0 x) b) := by
      unfold mn it; (repeat' split) <;> first | rfl | (exfalso; omega)
    by_cases h1 : i < n
    · rw [if_pos h1]
      by_cases h2 : i < 64
      · rw [if_pos h2, after_r x hx, Option.bind_some, w64 _ (by omega) (by omega)]
        cases s with
        | zero => exfalso; omega
        | succ s =>
          have hd := dbl_in x hx
          rw [loop_r n b hn hb s (dbl x) (i + 1) ⟨hd.1, hd.2.1⟩ ⟨by omega, by omega, by omega⟩ (by push_cast at hs; omega)]
          rw [show ((if n < 64 then n else 64) - i).toNat = ((if n < 64 then n else 64) - (i + 1)).toNat + 1 by split <;> omega]
          rfl
      · rw [if_neg h2, show ((if n < 64 then n else 64) - i).toNat = 0 by split <;> omega]; exact fin
    · rw [if_neg h1, show ((if n < 64 then n else 64) - i).toNat = 0 by split <;> omega]; exact fin

/-- Both come to the same. -/
theorem same (x b m n : Int) (hm : 1 ≤ m ∧ m ≤ 9223372036854775807) (hn : mn m 100 - 1 = n) : ∃ v, 0 ≤ v ∧ ticks_Twice.f 42 x (m - 1) b = some v ∧ cablewayref03_Twice.f 66 x n b = some v := by
  have hx := clamp_in x
  have hb := clamp_in b
  have hnn : 0 ≤ n ∧ n ≤ 99 ∧ (m ≤ 100 → n = m - 1) ∧ (100 < m → n = 99) := by rw [← hn]; unfold mn; split <;> omega
  have hit := it_in (m - 1).toNat _ hx
  refine ⟨mn (it (m - 1).toNat (mn (mx x 0) 1099511627776)) (mn (mx b 0) 1099511627776), by unfold mn at *; split <;> omega, ?_, ?_⟩
  · unfold ticks_Twice.f
    rw [clamp_t, clamp_t]
    simp only [Option.bind_some]
    rw [loop_t (m - 1) _ ⟨by omega, by omega⟩ hb 41 _ 0 hx (by
      by_cases h : mn (mx x 0) 1099511627776 = 0
      · exact Or.inl h
      · right
        have : (2 : Int) ^ 41 = 2199023255552 := by decide
        rw [this]; omega) ⟨by omega, by omega⟩]
    rw [Int.sub_zero]
  · unfold cablewayref03_Twice.f
    rw [clamp_r, clamp_r]
    simp only [Option.bind_some]
    rw [loop_r n _ ⟨hnn.1, hnn.2.1⟩ hb 65 _ 0 hx ⟨by omega, by omega, by omega⟩ (by omega)]
    congr 2
    by_cases h : m - 1 ≤ 64
    · congr 1; split <;> omega
    · exact it_same _ hx _ _ (by split <;> omega) (by omega)
end Go.Proofs.Ytbbaonaahokidaa.Twice
