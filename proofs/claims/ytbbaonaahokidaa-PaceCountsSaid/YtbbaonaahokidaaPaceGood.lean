/- What a pace counted: sums of its bands. -/
import Derived.Test.YtbbaonaahokidaaPace4
import Derived.Test.YtbbaonaahokidaaWalkPaceBands
namespace Go.Proofs.Ytbbaonaahokidaa.Pace
open Go.RowKit Go.Proofs.Ytbbaonaahokidaa.PPaceBands Go.Proofs.YtbbaonaahokidaaW.PrintWords Go.Proofs.YtbbaonaahokidaaW.PrintLast Go.Proofs.YtbbaonaahokidaaW.PrintMore Go.Proofs.Ytbbaonaahokidaa.Aid
set_option linter.unusedVariables false

/-- A pace's numbers behind n times. -/
structure Cnt (L : List Int) (n : Nat) : Prop where
  len : L.length = 44
  all : (L[42]?.getD 0 : Int) = n
  most0 : 0 ≤ (L[43]?.getD 0 : Int)
  most1 : (L[43]?.getD 0 : Int) ≤ 1099511627776
  pos : ∀ i, i < 42 → 0 ≤ (L[i]?.getD 0 : Int)
  sum : pre L 42 = n
theorem pre_set (L : List Int) (b : Nat) (v : Int) (hb : b < L.length) : ∀ i, i ≤ L.length → pre (L.set b v) i = pre L i + if b < i then v - L[b]?.getD 0 else 0 := by
  intro i
  induction i with
  | zero => intro _; simp [pre]
  | succ i ih =>
    intro hi
    simp only [pre]
    rw [ih (by omega), List.getElem?_set]
    by_cases h : b = i
    · subst h
      simp [hb]
      omega
    · rw [if_neg h]
      by_cases h2 : b < i
      · rw [if_pos h2, if_pos (by omega)]; omega
      · rw [if_neg h2, if_neg (by omega)]; omega
theorem pre_far (L : List Int) (b : Nat) (v : Int) : ∀ i, i ≤ b → pre (L.set b v) i = pre L i := by
  intro i
  induction i with
  | zero => intro _; rfl
  | succ i ih => intro hi; simp only [pre]; rw [ih (by omega), List.getElem?_set_ne (by omega)]
theorem Cnt.zero : Cnt (List.replicate 44 0) 0 := by
  refine ⟨rfl, rfl, by decide, by decide, ?_, by decide⟩
  decide
theorem Cnt.put {L : List Int} {n : Nat} (h : Cnt L n) (b : Nat) (hb : b < 42) (c : Int) (hc : 0 ≤ c ∧ c ≤ 1099511627776) : Cnt (putL L b c) (n + 1) := by
  have hl := h.len
  unfold putL
  refine ⟨by simp [hl], ?_, ?_, ?_, ?_, ?_⟩
  · rw [List.getElem?_set_ne (by omega), List.getElem?_set_self (by simp; omega)]
    have := h.all
    simp; omega
  · rw [List.getElem?_set_self (by simp; omega)]
    have := h.most0
    simp [mx]; split <;> omega
  · rw [List.getElem?_set_self (by simp; omega)]
    have := h.most1
    simp [mx]; split <;> omega
  · intro i hi
    rw [List.getElem?_set_ne (by omega), List.getElem?_set_ne (by omega), List.getElem?_set]
    have h0 := h.pos i hi
    have h1 := h.pos b hb
    by_cases hbi : b = i
    · rw [if_pos hbi]
      rw [if_pos (by omega)]
      simp only [Option.getD_some]
      omega
    · rw [if_neg hbi]; exact h0
  · rw [pre_far _ _ _ _ (by omega), pre_far _ _ _ _ (by omega), pre_set _ _ _ (by omega) _ (by omega), if_pos hb, h.sum]
    omega
section
variable {L : List Int} {n : Nat}
theorem Cnt.mono (h : Cnt L n) : ∀ d i, i + d ≤ 42 → pre L i ≤ pre L (i + d) := by
  intro d
  induction d with
  | zero => intro i _; exact Int.le_refl _
  | succ d ih =>
    intro i hi
    have := ih i (by omega)
    have := h.pos (i + d) (by omega)
    rw [← Nat.add_assoc]
    simp only [pre]
    omega
theorem Cnt.pre_le (h : Cnt L n) (i : Nat) (hi : i ≤ 42) : 0 ≤ pre L i ∧ pre L i ≤ n := by
  have h1 := h.mono i 0 (by omega)
  have h2 := h.mono (42 - i) i (by omega)
  rw [Nat.zero_add] at h1
  rw [show i + (42 - i) = 42 by omega, h.sum] at h2
  exact ⟨h1, h2⟩
theorem Cnt.le (h : Cnt L n) (i : Nat) (hi : i < 42) : 0 ≤ (L[i]?.getD 0 : Int) ∧ (L[i]?.getD 0 : Int) ≤ n := by
  have h1 := h.pre_le i (by omega)
  have h2 := h.pre_le (i + 1) (by omega)
  have h3 : pre L (i + 1) = pre L i + L[i]?.getD 0 := rfl
  exact ⟨h.pos i hi, by omega⟩
/-- The last band with less than the part below it. -/
theorem Cnt.last (h : Cnt L n) (m : Int) (hm : 0 ≤ m ∧ m ≤ 100) : ∃ jr, jr < 42 ∧ ∀ b, b < 42 → ((decide (0 < (n : Int)) && decide (pre L b * 100 < (n : Int) * m) || b == 0) = decide (b ≤ jr)) := by
  have key : ∀ t, t ≤ 42 → ∃ jr, (jr < 42 ∧ (jr < t ∨ jr = 0)) ∧ ∀ b, b < t → ((decide (0 < (n : Int)) && decide (pre L b * 100 < (n : Int) * m) || b == 0) = decide (b ≤ jr)) := by
    intro t
    induction t with
    | zero => intro _; exact ⟨0, ⟨by omega, Or.inr rfl⟩, fun b hb => by omega⟩
    | succ t ih =>
      intro ht
      obtain ⟨jr, ⟨h1, h2⟩, h3⟩ := ih (by omega)
      by_cases ht0 : t = 0
      · subst ht0
        exact ⟨0, ⟨by omega, Or.inr rfl⟩, fun b hb => by
          have hb0 : b = 0 := by omega
          subst hb0
          simp⟩
      by_cases hc : 0 < (n : Int) ∧ pre L t * 100 < (n : Int) * m
      · refine ⟨t, ⟨by omega, Or.inl (by omega)⟩, fun b hb => ?_⟩
        have hmn := h.mono (t - b) b (by omega)
        rw [show b + (t - b) = t by omega] at hmn
        rw [decide_eq_true hc.1, decide_eq_true (show pre L b * 100 < (n : Int) * m by omega), decide_eq_true (show b ≤ t by omega)]
        rfl
      · refine ⟨jr, ⟨h1, by omega⟩, fun b hb => ?_⟩
        by_cases hbt : b = t
        · subst hbt
          have h5 : (decide (0 < (n : Int)) && decide (pre L b * 100 < (n : Int) * m)) = false := by
            rw [← Bool.decide_and]
            exact decide_eq_false hc
          rw [h5, Bool.false_or, decide_eq_false (show ¬ b ≤ jr by omega)]
          simpa using ht0
        · exact h3 b (by omega)
  obtain ⟨jr, ⟨h1, _⟩, h2⟩ := key 42 (by omega)
  exact ⟨jr, h1, h2⟩
/-- It is the band that the sums meet first. -/
theorem Cnt.meets (h : Cnt L n) (m : Int) (hm : 0 ≤ m ∧ m ≤ 100) (hn : 0 < n) (jr : Nat) (hjr : jr < 42) (hl : ∀ b, b < 42 → ((decide (0 < (n : Int)) && decide (pre L b * 100 < (n : Int) * m) || b == 0) = decide (b ≤ jr)))
    (wq : Int) (hw : ((n : Int) * m + 99).tdiv 100 = wq) : (∀ i, i < jr → pre L (i + 1) < wq) ∧ wq ≤ pre L (jr + 1) := by
  have hmul : 0 ≤ (n : Int) * m := Int.mul_nonneg (by omega) hm.1
  have hmul2 : (n : Int) * m ≤ (n : Int) * 100 := Int.mul_le_mul_of_nonneg_left hm.2 (by omega)
  rw [Int.tdiv_eq_ediv_of_nonneg (by omega)] at hw
  constructor
  · intro i hi
    have h1 := hl (i + 1) (by omega)
    rw [decide_eq_true (show i + 1 ≤ jr by omega)] at h1
    simp at h1
    omega
  · by_cases h41 : jr = 41
    · subst h41
      rw [h.sum]
      omega
    · have h1 := hl (jr + 1) (by omega)
      rw [decide_eq_false (show ¬ jr + 1 ≤ jr by omega)] at h1
      simp at h1
      have := h1 (by omega)
      omega
end
/-- What the law counts a time to: both bands, of whatever time. -/
theorem bands_of (t : Int) : ∃ (c : Nat) (b : Nat), c ≤ 1099511627776 ∧ b < 42 ∧ ticks_Clamp.f t = some (c : Int) ∧ cablewayref03_Clamp.f t = some (c : Int) ∧ pace_Band.f 50 (c : Int) = some (b : Int) ∧ cablewaylaw52_band.f 50 t = some (b : Int) := by
  obtain ⟨cn, hcn, hcb⟩ : ∃ cn : Nat, mn (mx t 0) 1099511627776 = (cn : Int) ∧ cn ≤ 1099511627776 := by
    have h : 0 ≤ mn (mx t 0) 1099511627776 ∧ mn (mx t 0) 1099511627776 ≤ 1099511627776 := by unfold mn mx; split <;> split <;> omega
    exact ⟨(mn (mx t 0) 1099511627776).toNat, by omega, by omega⟩
  have hc1 : ticks_Clamp.f t = some (cn : Int) := by unfold ticks_Clamp.f; rw [hcn]
  have hc3 : ticks_Clamp.f (cn : Int) = some (cn : Int) := by
    unfold ticks_Clamp.f mn mx
    rw [if_neg (by omega), if_neg (by omega)]
  have hc2 : cablewayref03_Clamp.f t = some (cn : Int) := by
    rw [← hcn]
    unfold cablewayref03_Clamp.f mn mx
    by_cases h1 : t < 0
    · rw [if_pos h1, if_pos h1, if_neg (by omega)]
    · rw [if_neg h1, if_neg h1]
      by_cases h2 : t > 1099511627776
      · rw [if_pos h2, if_pos h2]
      · rw [if_neg h2, if_neg h2]
  have p41 : (2 : Nat) ^ 41 = 2199023255552 := by decide
  have p60 : (2 : Nat) ^ 60 = 1152921504606846976 := by decide
  obtain ⟨n, e1, e2, e3, e4, e5⟩ := walkPaceBands.bands 41 50 cn 0 (by omega) (by omega) (by omega) (by omega)
  rw [Nat.zero_add] at e2 e3
  exact ⟨cn, n, hcb, by omega, hc1, hc2, by unfold pace_Band.f; rw [hc3]; exact e2, by unfold cablewaylaw52_band.f; rw [hc2]; exact e3⟩
end Go.Proofs.Ytbbaonaahokidaa.Pace
