/- Fields are apart just if no bit is in two of them, and what is in none of them is what is left of a word: the statement over numbers and lists. -/
import Derived.Test.YtidefefaealheaaPFieldApartx3
import Derived.Test.YtidefefaealheaaFieldApartF
namespace Go.Proofs.Ytidefefaealheaa.FieldApartP
open Go.RowKit Go.Proofs.Ytidefefaealheaa.PFieldApart Go.Proofs.YtidefefaealheaaW.PrintWords Go.Proofs.YtidefefaealheaaW.PrintLast Go.Proofs.Ytidefefaealheaa.Aid Go.Proofs.Ytidefefaealheaa.FieldMath Go.Proofs.Ytidefefaealheaa.FieldApartF

def may (x : S37) : Bool := decide (0 ≤ x.f0 ∧ x.f0 < 64 ∧ 1 ≤ x.f1 ∧ x.f1 ≤ 64 - x.f0)
def has (b : Nat) (x : S37) : Bool := may x && inF x.f0.toNat x.f1.toNat b
def cnt (b : Nat) (l : List S37) : Nat := l.countP (has b)

theorem may_prop {x : S37} (h : may x = true) : ∃ a n : Nat, x.f0 = a ∧ x.f1 = n ∧ a + n ≤ 64 ∧ 1 ≤ n := by
  have := of_decide_eq_true h
  exact ⟨x.f0.toNat, x.f1.toNat, by omega, by omega, by omega, by omega⟩

theorem rd_at (xs : List S37) (i : Nat) (h : i < xs.length) : rd_T37 xs i = xs[i] := by
  unfold rd_T37
  simp [List.getD_eq_getElem?_getD, List.getElem?_eq_getElem h]

theorem drop_at (xs : List S37) (i : Nat) (h : i < xs.length) : xs.drop i = xs[i] :: xs.drop (i + 1) := (List.drop_eq_getElem_cons h)

def nextRest (rest b n : Nat) : Nat := if n > 0 then putN rest b 1 0 else rest

theorem l1_loop (xs : List S37) (w : Int) (hx : xs.length ≤ 6) (b : Nat) (hb : b < 64) (r : Bool) (K : Nat) (d : Nat) : ∀ (k i n rest : Nat) (ap : Bool), i + d = xs.length → rest < 2 ^ 64 → n ≤ i → K + d + 250 ≤ k →
    (∀ k', K ≤ k' → cablewaylaw01_FieldApart.l0 k' w xs (ap && (xs.drop i).all may && decide (n + cnt b (xs.drop i) ≤ 1)) (nextRest rest b (n + cnt b (xs.drop i)) : Nat) ((b + 1 : Nat) : Int) = some r) →
    cablewaylaw01_FieldApart.l1 k w xs ap rest b n i = some r := by
  induction d with
  | zero =>
    intro k i n rest ap hi hr hn hk H
    obtain ⟨k, rfl⟩ : ∃ m, k = m + 1 := ⟨k - 1, by omega⟩
    simp only [cablewaylaw01_FieldApart.l1]
    have hdr : xs.drop i = [] := List.drop_of_length_le (by omega)
    rw [hdr] at H
    have H := H k (by omega)
    rw [show cnt b [] = 0 from rfl, Nat.add_zero, List.all_nil, Bool.and_true] at H
    have hp : cablewayref01_Put.f k (rest : Int) (b : Int) 1 0 = some ((putN rest b 1 0 : Nat) : Int) := refPut_eq k rest b 1 0 (by omega) (by omega) hr (by omega)
    rw [if_neg (by omega), w64 _ (by omega) (by omega), show ((b : Int) + 1) = ((b + 1 : Nat) : Int) by omega, hp]
    simp only [Option.bind_some]
    unfold nextRest at H
    by_cases h1 : n > 1
    · rw [if_pos (by omega), if_pos (by omega)]
      rwa [decide_eq_false (by omega), Bool.and_false, if_pos (by omega)] at H
    · rw [if_neg (by omega)]
      rw [decide_eq_true (by omega), Bool.and_true] at H
      by_cases h0 : n > 0
      · rw [if_pos (by omega)]
        rwa [if_pos h0] at H
      · rw [if_neg (by omega)]
        rwa [if_neg h0] at H
  | succ d ih =>
    intro k i n rest ap hi hr hn hk H
    obtain ⟨k, rfl⟩ : ∃ m, k = m + 1 := ⟨k - 1, by omega⟩
    simp only [cablewaylaw01_FieldApart.l1]
    have hl : i < xs.length := by omega
    rw [if_pos (by omega), if_pos (by omega), rd_at xs i hl, refMay_eq]
    simp only [Option.bind_some]
    rw [drop_at xs i hl] at H
    simp only [List.all_cons, cnt, List.countP_cons] at H
    rw [w64 ((i : Int) + 1) (by omega) (by omega), w64 ((n : Int) + 1) (by omega) (by omega), show ((i : Int) + 1) = ((i + 1 : Nat) : Int) by omega, show ((n : Int) + 1) = ((n + 1 : Nat) : Int) by omega]
    have hmay : decide (0 ≤ xs[i].f0 ∧ xs[i].f0 < 64 ∧ 1 ≤ xs[i].f1 ∧ xs[i].f1 ≤ 64 - xs[i].f0) = may xs[i] := rfl
    rw [hmay]
    by_cases hm : may xs[i] = true
    · rw [if_pos hm]
      obtain ⟨a, m, ha, hm', hs, h1⟩ := may_prop hm
      have hin : has b xs[i] = (decide (a ≤ b) && decide (b < a + m)) := by unfold has inF; rw [hm, ha, hm']; simp
      rw [hm, Bool.true_and] at H
      rw [ha, hm', w64 _ (by omega) (by omega)]
      by_cases c1 : a ≤ b
      · rw [if_pos (by omega)]
        by_cases c2 : b < a + m
        · rw [if_pos (by omega)]
          rw [hin] at H
          simp only [c1, c2, decide_true, Bool.and_self, if_true] at H
          refine ih k (i + 1) (n + 1) rest ap (by omega) hr (by omega) (by omega) (fun k' hk' => ?_)
          have := H k' hk'
          rw [show n + (List.countP (has b) (List.drop (i + 1) xs) + 1) = n + 1 + cnt b (xs.drop (i + 1)) by unfold cnt; omega] at this
          exact this
        · rw [if_neg (by omega)]
          rw [hin] at H
          simp only [c2, decide_false, Bool.and_false, Bool.false_eq_true, if_false, Nat.add_zero] at H
          exact ih k (i + 1) n rest ap (by omega) hr (by omega) (by omega) H
      · rw [if_neg (by omega)]
        rw [hin] at H
        simp only [c1, decide_false, Bool.false_and, Bool.false_eq_true, if_false, Nat.add_zero] at H
        exact ih k (i + 1) n rest ap (by omega) hr (by omega) (by omega) H
    · rw [if_neg hm]
      have hm0 : may xs[i] = false := by simpa using hm
      have hin : has b xs[i] = false := by unfold has; rw [hm0]; rfl
      rw [hin, hm0] at H
      simp only [Bool.false_and, Bool.and_false, Bool.false_eq_true, if_false, Nat.add_zero] at H
      refine ih k (i + 1) n rest false (by omega) hr (by omega) (by omega) (fun k' hk' => ?_)
      simpa [cnt] using H k' hk'

/-- Is no bit below b in two fields, and are all there? -/
def apartTo (l : List S37) (b : Nat) : Bool := (decide (b = 0) || l.all may) && (List.range b).all fun j => decide (cnt j l ≤ 1)
def restTo (w : Nat) (l : List S37) : Nat → Nat
  | 0 => w
  | b + 1 => nextRest (restTo w l b) b (cnt b l)

theorem nextRest_lt {rest b n : Nat} (hr : rest < 2 ^ 64) (hb : b < 64) : nextRest rest b n < 2 ^ 64 := by
  unfold nextRest; split
  · exact putN_lt (by omega)
  · exact hr
theorem restTo_lt {w : Nat} (hw : w < 2 ^ 64) (l : List S37) : ∀ b, b ≤ 64 → restTo w l b < 2 ^ 64
  | 0, _ => hw
  | b + 1, h => nextRest_lt (restTo_lt hw l b (by omega)) (by omega)
theorem restTo_bit {w : Nat} (hw : w < 2 ^ 64) (l : List S37) : ∀ b, b ≤ 64 → ∀ j, (restTo w l b).testBit j = (w.testBit j && !(decide (j < b) && decide (cnt j l > 0)))
  | 0, _, j => by simp [restTo]
  | b + 1, h, j => by
    have ih := restTo_bit hw l b (by omega) j
    simp only [restTo, nextRest]
    by_cases hc : cnt b l > 0
    · rw [if_pos hc, putN_bit (by omega) (restTo_lt hw l b (by omega))]
      unfold inF
      by_cases hj : j = b
      · subst hj
        simp [hc]
      · have : (decide (b ≤ j) && decide (j < b + 1)) = false := by simp; omega
        rw [this, ih]
        simp only [Bool.false_eq_true, if_false]
        have : decide (j < b) = decide (j < b + 1) := by rw [Bool.eq_iff_iff]; simp; omega
        rw [this]
    · rw [if_neg hc, ih]
      by_cases hj : j = b
      · subst hj; simp [hc]
      · have : decide (j < b) = decide (j < b + 1) := by rw [Bool.eq_iff_iff]; simp; omega
        rw [this]

theorem any_cnt (b : Nat) (l : List S37) : l.any (has b) = decide (cnt b l > 0) := by
  rw [Bool.eq_iff_iff]; simp [cnt, List.countP_pos_iff]

theorem take_cnt (b : Nat) (xs : List S37) (i : Nat) (h : i < xs.length) : cnt b (xs.take (i + 1)) = cnt b (xs.take i) + if has b xs[i] then 1 else 0 := by
  unfold cnt
  rw [List.take_succ_eq_append_getElem h, List.countP_append, List.countP_singleton]

theorem has_mask {x : S37} (hm : may x = true) (b : Nat) : (mask x.f0.toNat x.f1.toNat).testBit b = has b x := by
  rw [mask_bit]; unfold has; rw [hm]; rfl

theorem apart_prog (xs : List S37) (hx : xs.length ≤ 6) (d : Nat) : ∀ (k i seen : Nat), i + d = xs.length → seen < 2 ^ 64 → (∀ b, seen.testBit b = decide (cnt b (xs.take i) > 0)) → (xs.take i).all may = true → (∀ b, cnt b (xs.take i) ≤ 1) → d < k →
    field_Apart.l0 k seen xs xs.length i = some (xs.all may && (List.range 64).all fun j => decide (cnt j xs ≤ 1)) := by
  induction d with
  | zero =>
    intro k i seen hi _ _ hm hc hk
    obtain ⟨k, rfl⟩ : ∃ m, k = m + 1 := ⟨k - 1, by omega⟩
    simp only [field_Apart.l0]
    rw [if_neg (by omega)]
    rw [List.take_of_length_le (by omega)] at hm hc
    congr 1
    rw [hm]
    simp only [Bool.true_and]
    symm
    rw [List.all_eq_true]
    intro j _
    exact decide_eq_true (hc j)
  | succ d ih =>
    intro k i seen hi hs hsb hm hc hk
    obtain ⟨k, rfl⟩ : ∃ m, k = m + 1 := ⟨k - 1, by omega⟩
    simp only [field_Apart.l0]
    have hl : i < xs.length := by omega
    rw [if_pos (by omega), if_pos (by omega), if_pos (by omega), rd_at xs i hl, fMay_eq]
    simp only [Option.bind_some]
    have hmay : decide (0 ≤ xs[i].f0 ∧ xs[i].f0 < 64 ∧ 1 ≤ xs[i].f1 ∧ xs[i].f1 ≤ 64 - xs[i].f0) = may xs[i] := rfl
    rw [hmay]
    by_cases hmi : may xs[i] = true
    · rw [if_pos hmi]
      obtain ⟨a, m, ha, hm', hsum, h1⟩ := may_prop hmi
      have hmk : ∀ b, (mask a m).testBit b = has b xs[i] := fun b => by have := has_mask hmi b; rwa [ha, hm'] at this
      rw [ha, hm', fMask_eq a m hsum h1]
      simp only [Option.bind_some]
      rw [and_u64 _ _ hs (mask_lt hsum), or_u64 _ _ hs (mask_lt hsum)]
      by_cases hz : seen &&& mask a m = 0
      · rw [if_pos (by omega), w64 _ (by omega) (by omega), show ((i : Int) + 1) = ((i + 1 : Nat) : Int) by omega]
        have hno : ∀ b, ¬ (cnt b (xs.take i) > 0 ∧ has b xs[i] = true) := by
          intro b ⟨h1, h2⟩
          have := congrArg (fun x : Nat => x.testBit b) hz
          simp [hsb, hmk, h1, h2] at this
        refine ih k (i + 1) (seen ||| mask a m) (by omega) (Nat.or_lt_two_pow hs (mask_lt hsum)) (fun b => ?_) ?_ (fun b => ?_) (by omega)
        · rw [Nat.testBit_or, hsb, hmk, take_cnt b xs i hl]
          cases has b xs[i] <;> simp
        · rw [List.take_succ_eq_append_getElem hl, List.all_append, hm]; simp [hmi]
        · rw [take_cnt b xs i hl]
          have := hno b
          have := hc b
          cases hh : has b xs[i] <;> simp [hh] at * <;> omega
      · rw [if_neg (by omega)]
        congr 1
        symm
        obtain ⟨b, hb⟩ := Nat.exists_testBit_of_ne_zero hz
        rw [Nat.testBit_and, hsb, hmk, Bool.and_eq_true] at hb
        have hb64 : b < 64 := by
          have := hmk b
          rw [hb.2, mask_bit] at this
          unfold inF at this
          simp at this; omega
        have h2 : cnt b xs ≥ 2 := by
          have e : cnt b xs = cnt b (xs.take (i + 1)) + cnt b (xs.drop (i + 1)) := by
            unfold cnt; rw [← List.countP_append, List.take_append_drop]
          rw [e, take_cnt b xs i hl, hb.2]
          have := of_decide_eq_true hb.1
          simp; omega
        rw [Bool.and_eq_false_iff]
        right
        rw [List.all_eq_false]
        exact ⟨b, List.mem_range.2 hb64, by simp; omega⟩
    · rw [if_neg hmi]
      congr 1
      symm
      rw [Bool.and_eq_false_iff]
      left
      rw [List.all_eq_false]
      exact ⟨xs[i], List.getElem_mem hl, hmi⟩

theorem rest_prog (xs : List S37) (hx : xs.length ≤ 6) (w : Nat) (d : Nat) : ∀ (k i v : Nat), i + d = xs.length → v < 2 ^ 64 → (∀ b, v.testBit b = (w.testBit b && !decide (cnt b (xs.take i) > 0))) → d < k →
    ∃ r : Nat, field_Rest.l0 k v xs xs.length i = some (r : Int) ∧ r < 2 ^ 64 ∧ ∀ b, r.testBit b = (w.testBit b && !decide (cnt b xs > 0)) := by
  induction d with
  | zero =>
    intro k i v hi hv hb hk
    obtain ⟨k, rfl⟩ : ∃ m, k = m + 1 := ⟨k - 1, by omega⟩
    refine ⟨v, ?_, hv, fun b => ?_⟩
    · simp only [field_Rest.l0]
      rw [if_neg (by omega)]
    · rw [hb, List.take_of_length_le (by omega)]
  | succ d ih =>
    intro k i v hi hv hb hk
    obtain ⟨k, rfl⟩ : ∃ m, k = m + 1 := ⟨k - 1, by omega⟩
    simp only [field_Rest.l0]
    have hl : i < xs.length := by omega
    rw [if_pos (by omega), if_pos (by omega), if_pos (by omega), rd_at xs i hl, w64 _ (by omega) (by omega), show ((i : Int) + 1) = ((i + 1 : Nat) : Int) by omega]
    by_cases hmi : may xs[i] = true
    · obtain ⟨a, m, ha, hm', hsum, h1⟩ := may_prop hmi
      have hmk : ∀ b, (mask a m).testBit b = has b xs[i] := fun b => by have := has_mask hmi b; rwa [ha, hm'] at this
      rw [ha, hm', fMask_eq a m hsum h1]
      simp only [Option.bind_some]
      rw [andNot_u64 _ _ hv (mask_lt hsum)]
      refine ih k (i + 1) _ (by omega) (Nat.and_lt_two_pow _ (by omega)) (fun b => ?_) (by omega)
      rw [Nat.testBit_and, testBit_not _ _ (mask_lt hsum), hmk, hb, take_cnt b xs i hl]
      have h64 : has b xs[i] = true → b < 64 := fun h => by
        have := hmk b
        rw [h, mask_bit] at this
        unfold inF at this
        simp at this; omega
      by_cases hb64 : b < 64
      · cases has b xs[i] <;> simp [hb64]
      · have : (w.testBit b && !decide (cnt b (xs.take i) > 0)) = false := by
          rw [← hb]; exact Nat.testBit_lt_two_pow (Nat.lt_of_lt_of_le hv (Nat.pow_le_pow_right (by decide) (by omega)))
        have hf : has b xs[i] = false := by cases hh : has b xs[i] <;> simp_all
        rw [this, hf]
        simp at this ⊢
        exact this
    · have hn : ¬ (0 ≤ xs[i].f0 ∧ xs[i].f0 < 64 ∧ 1 ≤ xs[i].f1 ∧ xs[i].f1 ≤ 64 - xs[i].f0) := fun h => hmi (decide_eq_true h)
      rw [fMask_none _ _ hn]
      simp only [Option.bind_some]
      have e : Go.bits .andNot .u64 (v : Int) 0 = (v : Int) := by
        have := andNot_u64 v 0 hv (by decide)
        rw [show ((0 : Nat) : Int) = 0 from rfl] at this
        rw [this]
        congr 1
        apply Nat.eq_of_testBit_eq
        intro j
        rw [Nat.testBit_and, testBit_not _ _ (by decide)]
        by_cases hj : j < 64
        · simp [hj]
        · rw [Nat.testBit_lt_two_pow (Nat.lt_of_lt_of_le hv (Nat.pow_le_pow_right (by decide) (by omega)))]; rfl
      rw [e]
      refine ih k (i + 1) v (by omega) hv (fun b => ?_) (by omega)
      have hf : has b xs[i] = false := by unfold has; simp [hmi]
      rw [hb, take_cnt b xs i hl, hf]
      simp

theorem apart_awake : cablewaylaw01_awake.f = some true := by kernel_rfl

theorem l0_loop (xs : List S37) (hx : xs.length ≤ 6) (w : Nat) (hw : w < 2 ^ 64) (d : Nat) : ∀ (k b : Nat), b + d = 64 → 300 + d * 300 ≤ k →
    cablewaylaw01_FieldApart.l0 k w xs (apartTo xs b) (restTo w xs b) b = some true := by
  induction d with
  | zero =>
    intro k b hb hk
    obtain ⟨k, rfl⟩ : ∃ m, k = m + 1 := ⟨k - 1, by omega⟩
    obtain rfl : b = 64 := by omega
    simp only [cablewaylaw01_FieldApart.l0]
    rw [if_neg (by decide), apart_awake]
    simp only [Option.bind_some, if_true]
    have h1 : field_Apart.f k xs = some (apartTo xs 64) := by
      unfold field_Apart.f
      have := apart_prog xs hx xs.length k 0 0 (by omega) (by decide) (fun b => by simp [cnt]) (by simp) (fun b => by simp [cnt]) (by omega)
      exact this
    obtain ⟨r, h2, hr, hrb⟩ := rest_prog xs hx w xs.length k 0 w (by omega) hw (fun b => by simp [cnt]) (by omega)
    have h3 : field_Rest.f k w xs = some (r : Int) := h2
    rw [h1, h3]
    simp only [Option.bind_some, beq_self_eq_true, if_true]
    have : r = restTo w xs 64 := by
      apply Nat.eq_of_testBit_eq
      intro j
      rw [hrb, restTo_bit hw xs 64 (Nat.le_refl _)]
      by_cases hj : j < 64
      · simp [hj]
      · rw [Nat.testBit_lt_two_pow (Nat.lt_of_lt_of_le hw (Nat.pow_le_pow_right (by decide) (by omega)))]; rfl
    rw [this]
    simp
  | succ d ih =>
    intro k b hb hk
    obtain ⟨k, rfl⟩ : ∃ m, k = m + 1 := ⟨k - 1, by omega⟩
    simp only [cablewaylaw01_FieldApart.l0]
    rw [if_pos (by omega)]
    have hb64 : b < 64 := by omega
    refine l1_loop xs w hx b hb64 true (300 + d * 300) xs.length k 0 0 (restTo w xs b) (apartTo xs b) (by omega) (restTo_lt hw xs b (by omega)) (Nat.le_refl _) (by omega) (fun k' hk' => ?_)
    have := ih k' (b + 1) (by omega) hk'
    rw [List.drop_zero, Nat.zero_add]
    have e : (apartTo xs b && xs.all may && decide (cnt b xs ≤ 1)) = apartTo xs (b + 1) := by
      unfold apartTo
      rw [List.range_succ, List.all_append]
      cases xs.all may <;> simp
    rw [e]
    exact this

theorem FieldApart (w : Int) (h0 : 0 ≤ w) (h1 : w < 18446744073709551616) (l : List S37) (hl : l.length ≤ maxLen) : cablewaylaw01_FieldApart.f 20000 w l = some true := by
  unfold maxLen at hl
  have hm : mn (l.length : Int) 6 = ((min l.length 6 : Nat) : Int) := by unfold mn; split <;> omega
  unfold cablewaylaw01_FieldApart.f
  rw [hm, if_pos (by omega), if_pos (by omega), Int.toNat_natCast]
  obtain ⟨w, rfl⟩ := Int.eq_ofNat_of_zero_le h0
  have := l0_loop (l.take (min l.length 6)) (by simp; omega) w (by omega) 64 20000 0 (by omega) (by omega)
  exact this
end Go.Proofs.Ytidefefaealheaa.FieldApartP
