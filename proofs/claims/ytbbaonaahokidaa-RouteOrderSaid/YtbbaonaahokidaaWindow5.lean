/- A window's own small trial; what its sums come to. -/
import Derived.Test.YtbbaonaahokidaaWindow4
namespace Go.Proofs.Ytbbaonaahokidaa.Window
open Go.RowKit Go.Proofs.Ytbbaonaahokidaa.PPaceBands Go.Proofs.YtbbaonaahokidaaW.PrintWords Go.Proofs.YtbbaonaahokidaaW.PrintLast Go.Proofs.YtbbaonaahokidaaW.PrintMore Go.Proofs.Ytbbaonaahokidaa.Aid Go.Proofs.Ytbbaonaahokidaa.Quiet Go.Proofs.Ytbbaonaahokidaa.Blk Go.Proofs.Ytbbaonaahokidaa.State Go.Proofs.Ytbbaonaahokidaa.Vals
set_option linter.unusedVariables false
attribute [local go_sem] max2_int min2_int max_two min_two

theorem sumAt_le {L L' : List Int} (h : ∀ i : Nat, (L'[i]?.getD 0 : Int) ≤ L[i]?.getD 0) (s : Nat) : ∀ n, sumAt L' s n ≤ sumAt L s n
  | 0 => Int.le_refl _
  | n + 1 => by
    have h1 := sumAt_le h s n
    have h2 := h (n * 2 + s)
    simp only [sumAt]
    omega
theorem set_zero_le {L : List Int} (h : Small 1000 L) (j : Nat) : ∀ i : Nat, ((L.set j 0)[i]?.getD 0 : Int) ≤ L[i]?.getD 0 := fun i => by
  rw [List.getElem?_set]
  by_cases hij : j = i
  · subst hij
    have := h j
    by_cases hj : j < L.length
    · simp [hj]
      have := this.1
      simpa [hj] using this
    · simp [hj]
  · rw [if_neg hij]; exact Int.le_refl _
theorem sumAt_clrs {L : List Int} (h : Small 1000 L) (B a s n : Nat) : ∀ k, sumAt (clrs B a k L) s n ≤ sumAt L s n
  | 0 => Int.le_refl _
  | k + 1 => by
    have h1 := sumAt_clrs h B a s n k
    have h2 := Small.clrs h (by omega) B a k
    have h3 := sumAt_le (set_zero_le h2 ((a + k + 1) % B * 2)) s n
    have h4 := sumAt_le (set_zero_le (h2.set ((a + k + 1) % B * 2) 0 (Int.le_refl _) (by omega)) ((a + k + 1) % B * 2 + 1)) s n
    exact Int.le_trans h4 (Int.le_trans h3 h1)
theorem get_bump (L : List Int) (q i : Nat) (hq : q < L.length) : ((bump L q)[i]?.getD 0 : Int) = L[i]?.getD 0 + (if q = i then 1 else 0) := by
  unfold bump
  rw [List.getElem?_set]
  by_cases h : q = i
  · subst h; simp [hq]
  · rw [if_neg h, if_neg h]; omega
theorem sumAt_bump (L : List Int) (p s s' : Nat) (hs : s < 2) (hs' : s' < 2) (hl : p * 2 + s' < L.length) : ∀ n, sumAt (bump L (p * 2 + s')) s n = sumAt L s n + (if s = s' ∧ p < n then 1 else 0)
  | 0 => by simp [sumAt]
  | n + 1 => by
    have h1 := sumAt_bump L p s s' hs hs' hl n
    simp only [sumAt]
    rw [h1, get_bump L _ _ hl]
    split <;> split <;> split <;> omega
theorem Small.bump {M : Int} {L : List Int} (h : Small M L) (i : Nat) (hM : M ≤ 999) : Small 1000 (Window.bump L i) := by
  have h0 := h i
  exact (h.mono (M' := 1000) (by omega)).set i _ (by omega) (by omega)
theorem Small.zeros (n : Nat) : Small 0 (List.replicate n 0) := fun i => by
  by_cases h : i < n <;> simp [h]
theorem clrs_zeros (B a n : Nat) : ∀ k, clrs B a k (List.replicate n 0) = List.replicate n 0
  | 0 => rfl
  | k + 1 => by
    show zero2 (clrs B a k (List.replicate n 0)) _ = _
    rw [clrs_zeros B a n k]
    unfold zero2
    have e : ∀ j, (List.replicate n (0 : Int)).set j 0 = List.replicate n 0 := fun j => by
      apply List.ext_getElem
      · simp
      · intro i h1 h2
        rw [List.getElem_set]
        split <;> simp
    rw [e, e]
theorem sumAt_zeros (n s : Nat) : ∀ k, sumAt (List.replicate n 0) s k = 0
  | 0 => rfl
  | k + 1 => by
    simp only [sumAt]
    rw [sumAt_zeros n s k]
    by_cases h : k * 2 + s < n <;> simp [h]
set_option maxHeartbeats 1000000 in
theorem awake_calls (w : World) : Calls Try.prog 30 #[] w fun r w' => r = .returned (.bool true) ∧ Below w.heap.size w w' := by
  have hu52 := Try.underlying52
  go_enter Try.func30, Try.ntmps30
  go_wp2_with fail
  refine (new_calls 2 4 2 4 4 w (by kernel_rfl) (by kernel_rfl) (by kernel_rfl)).mono ?_
  rintro e w1 ⟨g, gl, rfl, hF, hL, hne, hge, hB⟩
  have W1 := Aside0.mk (show WinAt w1 g gl 2 4 0 [0, 0, 0, 0] from ⟨hF, hL, rfl, hne, by omega, by omega, by omega⟩)
  have B1 := Aside0.mk hB
  have HG := Aside0.mk (show ∀ x ∈ [g, gl], w.heap.size ≤ x by simp; omega)
  clear hF hL hne hge hB
  have sm : ∀ a b c d : Int, (0 ≤ a ∧ a ≤ 1 ∧ 0 ≤ b ∧ b ≤ 1 ∧ 0 ≤ c ∧ c ≤ 1 ∧ 0 ≤ d ∧ d ≤ 1) → Small 1000 [a, b, c, d] := fun a b c d h i => by
    match i with
    | 0 => simp; omega
    | 1 => simp; omega
    | 2 => simp; omega
    | 3 => simp; omega
    | n + 4 => simp
  have SM := Aside0.mk sm
  clear sm
  go_wp2_with fail
  refine (note_at g gl 2 4 3 3 0 0 0 0 0 true _ _ w1 W1.out (by kernel_rfl) (by omega) (by decide) (by omega) (by decide) rfl rfl rfl (SM.out 0 0 0 0 (by omega))).mono ?_
  rintro e w2 ⟨rfl, hW, hO⟩
  have W2 := Aside0.mk (show WinAt w2 g gl 2 4 0 [1, 0, 0, 0] from hW)
  have B2 := Aside0.mk (hO.below B1.out HG.out B1.out.size)
  clear hW hO
  go_wp2_with fail
  refine (note_at g gl 2 4 4 4 0 1 0 1 1 false _ _ w2 W2.out (by kernel_rfl) (by omega) (by decide) (by omega) (by decide) rfl rfl rfl (SM.out 1 0 0 0 (by omega))).mono ?_
  rintro e w3 ⟨rfl, hW, hO⟩
  have W3 := Aside0.mk (show WinAt w3 g gl 2 4 1 [1, 0, 0, 1] from hW)
  have B3 := Aside0.mk (hO.below B2.out HG.out B2.out.size)
  clear hW hO
  go_wp2_with fail
  refine (counts_at g gl 2 4 4 4 1 1 1 1 _ [1, 0, 0, 1] w3 W3.out (by kernel_rfl) (by omega) (by decide) (by omega) (by decide) rfl rfl (SM.out 1 0 0 1 (by omega))).mono ?_
  rintro e w4 ⟨rfl, hW, hO⟩
  have W4 := Aside0.mk (show WinAt w4 g gl 2 4 1 [1, 0, 0, 1] from hW)
  have B4 := Aside0.mk (hO.below B3.out HG.out B3.out.size)
  rw [show sumAt [1, 0, 0, 1] 0 2 = 1 from rfl, show sumAt [1, 0, 0, 1] 1 2 = 1 from rfl]
  clear hW hO
  go_wp2_with fail
  refine (counts_at g gl 2 4 8 8 1 2 1 2 _ [0, 0, 0, 1] w4 W4.out (by kernel_rfl) (by omega) (by decide) (by omega) (by decide) rfl rfl (SM.out 0 0 0 1 (by omega))).mono ?_
  rintro e w5 ⟨rfl, hW, hO⟩
  have B5 := Aside0.mk (hO.below B4.out HG.out B4.out.size)
  rw [show sumAt [0, 0, 0, 1] 0 2 = 0 from rfl, show sumAt [0, 0, 0, 1] 1 2 = 1 from rfl]
  clear hW hO
  go_wp2_with fail
  go_ret
  exact ⟨rfl, (B5.out.alloc B5.out.size _).alloc (by have := B5.out.size; simp; omega) _⟩
end Go.Proofs.Ytbbaonaahokidaa.Window
