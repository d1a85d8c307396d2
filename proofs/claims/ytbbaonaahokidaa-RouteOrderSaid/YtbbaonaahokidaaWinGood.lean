/- What a window's buckets count: what happened, and where. -/
import Derived.Test.YtbbaonaahokidaaWindow5
namespace Go.Proofs.Ytbbaonaahokidaa.WinGood
open Go.Proofs.Ytbbaonaahokidaa.Window
set_option linter.unusedVariables false

/-- Is it of this kind: well (0), ill (1)? -/
def kind (s : Nat) (q : Bool) : Bool := q == decide (s = 0)
/-- How many of a kind count, of those in bucket p. -/
def cntP (B tu p s : Nat) (ev : List (Nat × Bool)) : Nat := ev.countP fun e => decide (e.1 % B = p) && (decide (tu < e.1 + B) && kind s e.2)
/-- How many of a kind count. -/
def cnt (B tu s : Nat) (ev : List (Nat × Bool)) : Nat := ev.countP fun e => decide (tu < e.1 + B) && kind s e.2
/-- The buckets hold what happened. -/
structure Good (B tu : Nat) (L : List Int) (ev : List (Nat × Bool)) : Prop where
  len : L.length = B * 2
  hB : 1 ≤ B
  at_ : ∀ e ∈ ev, e.1 ≤ tu
  cell : ∀ p, p < B → ∀ s, s < 2 → (L[p * 2 + s]?.getD 0 : Int) = (cntP B tu p s ev : Nat)
open Classical in
theorem clrs_get (B a : Nat) : ∀ (k : Nat) (L : List Int) (p s : Nat), s < 2 → ((clrs B a k L)[p * 2 + s]?.getD 0 : Int) = if ∃ j, a < j ∧ j ≤ a + k ∧ j % B = p then 0 else L[p * 2 + s]?.getD 0 := by
  intro k
  induction k with
  | zero =>
    intro L p s hs
    rw [if_neg (by rintro ⟨j, h1, h2, _⟩; omega)]
    rfl
  | succ k ih =>
    intro L p s hs
    simp only [clrs, zero2]
    rw [List.getElem?_set, List.getElem?_set]
    by_cases hp : (a + k + 1) % B = p
    · have hex : ∃ j, a < j ∧ j ≤ a + (k + 1) ∧ j % B = p := ⟨a + k + 1, by omega, by omega, hp⟩
      rw [if_pos hex, hp]
      have hs2 : s = 0 ∨ s = 1 := by omega
      rcases hs2 with rfl | rfl
      · rw [if_neg (show ¬ p * 2 + 1 = p * 2 + 0 by omega), if_pos (show p * 2 = p * 2 + 0 by omega)]
        split <;> rfl
      · rw [if_pos rfl]
        split <;> rfl
    · rw [if_neg (by omega), if_neg (by omega), ih L p s hs]
      congr 1
      apply propext
      constructor
      · rintro ⟨j, h1, h2, h3⟩
        exact ⟨j, h1, by omega, h3⟩
      · rintro ⟨j, h1, h2, h3⟩
        refine ⟨j, h1, ?_, h3⟩
        rcases Nat.lt_or_ge j (a + k + 1) with h | h
        · omega
        · exact absurd (show (a + k + 1) % B = p by rw [← h3]; congr 1; omega) hp
section
variable {B tu : Nat} {L : List Int} {ev : List (Nat × Bool)}
open Classical in
theorem Good.turn (h : Good B tu L ev) (tn a0 : Nat) (ha : a0 = if tu + B ≤ tn then tn - B else tu) : Good B (max tu tn) (clrs B a0 (tn - a0) L) ev := by
  have hB := h.hB
  refine ⟨by rw [clrs_length]; exact h.len, h.hB, fun e he => by have := h.at_ e he; omega, fun p hp s hs => ?_⟩
  rw [clrs_get B a0 _ L p s hs, h.cell p hp s hs]
  by_cases hlt : tn ≤ tu
  · have h0 : a0 = tu := by rw [ha, if_neg (by omega)]
    rw [if_neg (by rintro ⟨j, h1, h2, _⟩; omega), show max tu tn = tu by omega]
  · have hm : max tu tn = tn := by omega
    rw [hm]
    have hle : a0 ≤ tn := by rw [ha]; split <;> omega
    rw [show a0 + (tn - a0) = tn by omega]
    split
    · rename_i hex
      obtain ⟨j, h1, h2, h3⟩ := hex
      symm
      have : cntP B tn p s ev = 0 := by
        unfold cntP
        rw [List.countP_eq_zero]
        intro e he hc
        have hat := h.at_ e he
        simp only [Bool.and_eq_true, decide_eq_true_eq] at hc
        obtain ⟨c1, c2, _⟩ := hc
        have hge : tu ≤ a0 := by rw [ha]; split <;> omega
        have hd : (j - e.1) % B = 0 := by
          have e1 := Nat.div_add_mod j B
          have e2 := Nat.div_add_mod e.1 B
          have e3 : j - e.1 = B * (j / B - e.1 / B) := by
            rw [Nat.mul_sub]
            omega
          rw [e3]
          exact Nat.mul_mod_right _ _
        have hpos : 0 < j - e.1 := by omega
        have := Nat.le_of_dvd hpos (Nat.dvd_of_mod_eq_zero hd)
        omega
      rw [this]
      rfl
    · rename_i hno
      congr 1
      unfold cntP
      apply List.countP_congr
      intro e he
      have hat := h.at_ e he
      simp only [Bool.and_eq_true, decide_eq_true_eq]
      constructor
      · rintro ⟨c1, c2, c3⟩
        refine ⟨c1, ?_, c3⟩
        rcases Nat.lt_or_ge tn (e.1 + B) with hq | hq
        · exact hq
        · exfalso
          by_cases hfar : tu + B ≤ tn
          · have h0 : a0 = tn - B := by rw [ha, if_pos hfar]
            refine hno ⟨tn - (tn - p) % B, ?_, by omega, ?_⟩
            · have := Nat.mod_lt (tn - p) (show 0 < B by omega)
              omega
            · have e1 := Nat.div_add_mod (tn - p) B
              have e3 : tn - (tn - p) % B = p + B * ((tn - p) / B) := by omega
              rw [e3, Nat.add_mul_mod_self_left, Nat.mod_eq_of_lt hp]
          · have h0 : a0 = tu := by rw [ha, if_neg hfar]
            exact hno ⟨e.1 + B, by omega, hq, by rw [Nat.add_mod_right]; exact c1⟩
      · rintro ⟨c1, c2, c3⟩
        exact ⟨c1, by omega, c3⟩
theorem Good.note (h : Good B tu L ev) (q : Bool) : Good B tu (bump L (tu % B * 2 + (if q then 0 else 1))) (ev ++ [(tu, q)]) := by
  have hB := h.hB
  have hl := h.len
  have hm := Nat.mod_lt tu (show 0 < B by omega)
  refine ⟨by simp [bump, h.len], h.hB, fun e he => ?_, fun p hp s hs => ?_⟩
  · rcases List.mem_append.1 he with he | he
    · exact h.at_ e he
    · simp at he; subst he; exact Nat.le_refl _
  · rw [get_bump L _ _ (by split <;> omega), h.cell p hp s hs]
    unfold cntP
    rw [List.countP_append, List.countP_singleton]
    have hk : (tu % B * 2 + (if q then 0 else 1) = p * 2 + s) ↔ (decide ((tu, q).1 % B = p) && (decide (tu < (tu, q).1 + B) && kind s (tu, q).2)) = true := by
      simp only [Bool.and_eq_true, decide_eq_true_eq, kind, beq_iff_eq]
      cases q
      · simp; omega
      · simp; omega
    by_cases hc : tu % B * 2 + (if q then 0 else 1) = p * 2 + s
    · rw [if_pos hc, if_pos (hk.1 hc)]; omega
    · rw [if_neg hc, if_neg (fun h => hc (hk.2 h))]; omega
theorem Good.sum (h : Good B tu L ev) (s : Nat) (hs : s < 2) : ∀ n, n ≤ B → sumAt L s n = ((ev.countP fun e => decide (e.1 % B < n) && (decide (tu < e.1 + B) && kind s e.2) : Nat) : Int) := by
  intro n
  induction n with
  | zero => intro _; simp [sumAt]
  | succ n ih =>
    intro hn
    simp only [sumAt]
    rw [ih (by omega), h.cell n (by omega) s hs]
    unfold cntP
    rw [← Int.natCast_add]
    congr 1
    clear ih h
    induction ev with
    | nil => rfl
    | cons e ev ihe =>
      simp only [List.countP_cons]
      have : ((if (decide (e.1 % B < n) && (decide (tu < e.1 + B) && kind s e.2)) = true then 1 else 0) + (if (decide (e.1 % B = n) && (decide (tu < e.1 + B) && kind s e.2)) = true then 1 else 0) : Nat) = if (decide (e.1 % B < n + 1) && (decide (tu < e.1 + B) && kind s e.2)) = true then 1 else 0 := by
        cases (decide (tu < e.1 + B) && kind s e.2)
        · simp
        · simp only [Bool.and_true, decide_eq_true_eq]
          split <;> split <;> split <;> omega
      omega
theorem Good.total (h : Good B tu L ev) (s : Nat) (hs : s < 2) : sumAt L s B = (cnt B tu s ev : Nat) := by
  rw [h.sum s hs B (Nat.le_refl _)]
  congr 1
  unfold cnt
  apply List.countP_congr
  intro e _
  have := Nat.mod_lt e.1 (show 0 < B from h.hB)
  simp [this]
theorem Good.small (h : Good B tu L ev) (M : Int) (hM : (ev.length : Int) ≤ M) : Small M L := by
  intro i
  rcases Nat.lt_or_ge i (B * 2) with hi | hi
  · have e : i = i / 2 * 2 + i % 2 := by omega
    have hc := h.cell (i / 2) (by omega) (i % 2) (by omega)
    rw [← e] at hc
    rw [hc]
    have : cntP B tu (i / 2) (i % 2) ev ≤ ev.length := List.countP_le_length
    omega
  · rw [List.getElem?_eq_none (by rw [h.len]; omega)]
    simp
    have := ev.length
    omega
theorem Good.zero (B : Nat) (hB : 1 ≤ B) : Good B 0 (List.replicate (B * 2) 0) [] := by
  refine ⟨by simp, hB, fun e he => by simp at he, fun p hp s hs => ?_⟩
  rw [List.getElem?_replicate, if_pos (by omega)]
  rfl
end
end Go.Proofs.Ytbbaonaahokidaa.WinGood
