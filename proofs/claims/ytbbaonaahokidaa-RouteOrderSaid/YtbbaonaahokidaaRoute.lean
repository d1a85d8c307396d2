/- Who has the least to do, the greatest and the least of a list, and whether it is even: contracts of the functions of route. -/
import Derived.Test.YtbbaonaahokidaaPRouteOrderx1
import Derived.Test.YtbbaonaahokidaaAid
import Derived.Test.YtbbaonaahokidaaQuiet
import Derived.WalkKit
import Derived.LoopTactic
import Derived.BigQuiet
import Derived.KernelRfl
namespace Go.Proofs.Ytbbaonaahokidaa.Route
open Go.RowKit Go.Proofs.Ytbbaonaahokidaa.PRouteOrder Go.Proofs.YtbbaonaahokidaaW.PrintWords Go.Proofs.YtbbaonaahokidaaW.PrintLast Go.Proofs.YtbbaonaahokidaaW.PrintMore Go.Proofs.Ytbbaonaahokidaa.Aid Go.Proofs.Ytbbaonaahokidaa.Quiet
set_option linter.unusedVariables false
attribute [local go_sem] max2_int min2_int max_two min_two

/-- The first of those that have the least, among the first n that have less than room. -/
def IsLeast (l : List Int) (room : Int) (n : Nat) (b : Int) : Prop :=
  (b = -1 ∧ ∀ i, i < n → room ≤ l[i]?.getD 0) ∨ ∃ j : Nat, b = j ∧ j < n ∧ l[j]?.getD 0 < room ∧ ∀ i, i < n → l[i]?.getD 0 < room → l[j]?.getD 0 ≤ l[i]?.getD 0 ∧ (l[i]?.getD 0 = l[j]?.getD 0 → j ≤ i)

theorem rd_nat (l : List Int) (i : Nat) : rd l (i : Int) = l[i]?.getD 0 := by unfold rd; simp

theorem least_loop (l : List Int) (room : Int) (hl : l.length ≤ 9223372036854775807) (d : Nat) : ∀ (k i : Nat) (b : Int), i + d = l.length → d < k → IsLeast l room i b →
    ∃ r, route_Least.l0 k l room b l l.length i = some r ∧ IsLeast l room l.length r := by
  induction d with
  | zero =>
    intro k i b hi hk h
    obtain ⟨k, rfl⟩ : ∃ m, k = m + 1 := ⟨k - 1, by omega⟩
    obtain rfl : i = l.length := by omega
    refine ⟨b, ?_, h⟩
    simp only [route_Least.l0]
    rw [if_neg (by omega)]
  | succ d ih =>
    intro k i b hi hk h
    obtain ⟨k, rfl⟩ : ∃ m, k = m + 1 := ⟨k - 1, by omega⟩
    have e : wrap64 ((i : Int) + 1) = ((i + 1 : Nat) : Int) := by rw [w64 _ (by omega) (by omega)]; omega
    simp only [route_Least.l0]
    rw [if_pos (by omega), if_pos (by omega), if_pos (by omega), rd_nat, e]
    by_cases hr : l[i]?.getD 0 < room
    · rw [if_pos hr]
      rcases h with ⟨rfl, h⟩ | ⟨j, rfl, hj, hjr, h⟩
      · rw [if_pos (by decide)]
        refine ih k (i + 1) i (by omega) (by omega) (.inr ⟨i, rfl, by omega, hr, fun x hx hxr => ?_⟩)
        rcases Nat.lt_or_ge x i with hx' | hx'
        · have := h x hx'; omega
        · obtain rfl : x = i := by omega
          exact ⟨Int.le_refl _, fun _ => Nat.le_refl _⟩
      · rw [if_neg (by omega), if_pos (by omega), if_pos (by omega), rd_nat]
        by_cases hlt : l[i]?.getD 0 < l[j]?.getD 0
        · rw [if_pos hlt]
          refine ih k (i + 1) i (by omega) (by omega) (.inr ⟨i, rfl, by omega, hr, fun x hx hxr => ?_⟩)
          rcases Nat.lt_or_ge x i with hx' | hx'
          · have := (h x hx' hxr).1
            exact ⟨by omega, fun e => by omega⟩
          · obtain rfl : x = i := by omega
            exact ⟨Int.le_refl _, fun _ => Nat.le_refl _⟩
        · rw [if_neg hlt]
          refine ih k (i + 1) j (by omega) (by omega) (.inr ⟨j, rfl, by omega, hjr, fun x hx hxr => ?_⟩)
          rcases Nat.lt_or_ge x i with hx' | hx'
          · exact h x hx' hxr
          · obtain rfl : x = i := by omega
            exact ⟨by omega, fun _ => by omega⟩
    · rw [if_neg hr]
      refine ih k (i + 1) b (by omega) (by omega) ?_
      rcases h with ⟨rfl, h⟩ | ⟨j, rfl, hj, hjr, h⟩
      · refine .inl ⟨rfl, fun x hx => ?_⟩
        rcases Nat.lt_or_ge x i with hx' | hx'
        · exact h x hx'
        · obtain rfl : x = i := by omega
          omega
      · refine .inr ⟨j, rfl, by omega, hjr, fun x hx hxr => ?_⟩
        rcases Nat.lt_or_ge x i with hx' | hx'
        · exact h x hx' hxr
        · obtain rfl : x = i := by omega
          omega

theorem least_eq (l : List Int) (room : Int) (hl : l.length ≤ 9223372036854775807) : ∃ r, route_Least.f (l.length + 1) l room = some r ∧ IsLeast l room l.length r := by
  unfold route_Least.f
  exact least_loop l room hl l.length (l.length + 1) 0 (-1) (by omega) (by omega) (.inl ⟨rfl, fun i hi => absurd hi (by omega)⟩)

/-- The greatest, and the least, of the first n + 1. -/
def maxTo (l : List Int) : Nat → Int
  | 0 => l[0]?.getD 0
  | n + 1 => mx (maxTo l n) (l[n + 1]?.getD 0)
def minTo (l : List Int) : Nat → Int
  | 0 => l[0]?.getD 0
  | n + 1 => mn (minTo l n) (l[n + 1]?.getD 0)

theorem maxTo_ge (l : List Int) : ∀ n i, i ≤ n → l[i]?.getD 0 ≤ maxTo l n
  | 0, i, h => by obtain rfl : i = 0 := by omega
                  exact Int.le_refl _
  | n + 1, i, h => by
    unfold maxTo mx
    rcases Nat.lt_or_ge i (n + 1) with h' | h'
    · have := maxTo_ge l n i (by omega)
      split <;> omega
    · obtain rfl : i = n + 1 := by omega
      split <;> omega
theorem maxTo_in (l : List Int) : ∀ n, ∃ i, i ≤ n ∧ maxTo l n = l[i]?.getD 0
  | 0 => ⟨0, Nat.le_refl _, rfl⟩
  | n + 1 => by
    obtain ⟨i, hi, e⟩ := maxTo_in l n
    unfold maxTo mx
    split
    · exact ⟨n + 1, Nat.le_refl _, rfl⟩
    · exact ⟨i, by omega, e⟩
theorem minTo_le (l : List Int) : ∀ n i, i ≤ n → minTo l n ≤ l[i]?.getD 0
  | 0, i, h => by obtain rfl : i = 0 := by omega
                  exact Int.le_refl _
  | n + 1, i, h => by
    unfold minTo mn
    rcases Nat.lt_or_ge i (n + 1) with h' | h'
    · have := minTo_le l n i (by omega)
      split <;> omega
    · obtain rfl : i = n + 1 := by omega
      split <;> omega
theorem minTo_in (l : List Int) : ∀ n, ∃ i, i ≤ n ∧ minTo l n = l[i]?.getD 0
  | 0 => ⟨0, Nat.le_refl _, rfl⟩
  | n + 1 => by
    obtain ⟨i, hi, e⟩ := minTo_in l n
    unfold minTo mn
    split
    · exact ⟨n + 1, Nat.le_refl _, rfl⟩
    · exact ⟨i, by omega, e⟩

set_option maxHeartbeats 1000000 in
theorem max_calls (A : Option Addr) (c : Nat) (l : List Int) (w : World) (hr : Kd.C (Kd.int .i64) w A l.length l) (h1 : 1 ≤ l.length) :
    Calls Try.prog 75 #[.slice A l.length c] w fun e w' => e = .returned (.int .i64 (maxTo l (l.length - 1))) ∧ ∃ n, w' = w.drewN n := by
  have hl : l.length ≤ 9223372036854775807 := hr.2.1
  obtain ⟨a, rfl, hc0⟩ := Kd.at_int hr 0 (by omega) (by omega)
  have cell : ∀ i, i < l.length → w.cell? (a.add i) = some (.int .i64 (l[i]?.getD 0)) := fun i hi => by
    obtain ⟨b, hb, hc⟩ := Kd.at_int hr (i : Int) (by omega) (by omega)
    injection hb with hb
    subst hb
    rwa [rd_nat, Int.toNat_natCast] at hc
  have c0 : w.cell? a = some (.int .i64 (l[0]?.getD 0)) := cell 0 (by omega)
  have hlt : decide ((l.length : Int) < 1) = false := by simp; omega
  clear hr hc0
  have HC := Aside0.mk cell
  clear cell
  go_enter Try.func75, Try.ntmps75
  go_wp2
  go_loopw [3, 4] (fun m i wr => ∃ k : Nat, k + 1 ≤ l.length ∧ i = .int .i64 ((k + 1 : Nat) : Int) ∧ m = .int .i64 (maxTo l k) ∧ ∃ n, wr = w.drewN n) (fun _ i _ => l.length - (intOf i).toNat)
  case atStart => exact ⟨0, by omega, rfl, rfl, 0, rfl⟩
  case round =>
    obtain ⟨k, hk, rfl, rfl, n, rfl⟩ := hrel
    by_cases hlt : k + 1 < l.length
    · obtain ⟨v, hv⟩ : ∃ v, l[k + 1]?.getD 0 = v := ⟨_, rfl⟩
      have c1 : w.cell? ⟨a.block, a.off + (k + 1), none⟩ = some (.int .i64 v) := by rw [← hv]; exact HC.out (k + 1) hlt
      have HV := Aside0.mk hv
      clear hv
      go_wp2
      go_roundw
      case rel => exact ⟨k + 1, by omega, by go_num, by show _ = Value.int .i64 (mx (maxTo l k) (l[k + 1]?.getD 0)); rw [HV.out]; rfl, _, rfl⟩
      case measure => simp [intOf]; omega
    · go_wp2
      go_ret
      refine ⟨?_, _, rfl⟩
      rw [show l.length - 1 = k by omega]
      rfl

set_option maxHeartbeats 1000000 in
theorem min_calls (A : Option Addr) (c : Nat) (l : List Int) (w : World) (hr : Kd.C (Kd.int .i64) w A l.length l) (h1 : 1 ≤ l.length) :
    Calls Try.prog 76 #[.slice A l.length c] w fun e w' => e = .returned (.int .i64 (minTo l (l.length - 1))) ∧ ∃ n, w' = w.drewN n := by
  have hl : l.length ≤ 9223372036854775807 := hr.2.1
  obtain ⟨a, rfl, hc0⟩ := Kd.at_int hr 0 (by omega) (by omega)
  have cell : ∀ i, i < l.length → w.cell? (a.add i) = some (.int .i64 (l[i]?.getD 0)) := fun i hi => by
    obtain ⟨b, hb, hc⟩ := Kd.at_int hr (i : Int) (by omega) (by omega)
    injection hb with hb
    subst hb
    rwa [rd_nat, Int.toNat_natCast] at hc
  have c0 : w.cell? a = some (.int .i64 (l[0]?.getD 0)) := cell 0 (by omega)
  have hlt : decide ((l.length : Int) < 1) = false := by simp; omega
  clear hr hc0
  have HC := Aside0.mk cell
  clear cell
  go_enter Try.func76, Try.ntmps76
  go_wp2
  go_loopw [3, 4] (fun m i wr => ∃ k : Nat, k + 1 ≤ l.length ∧ i = .int .i64 ((k + 1 : Nat) : Int) ∧ m = .int .i64 (minTo l k) ∧ ∃ n, wr = w.drewN n) (fun _ i _ => l.length - (intOf i).toNat)
  case atStart => exact ⟨0, by omega, rfl, rfl, 0, rfl⟩
  case round =>
    obtain ⟨k, hk, rfl, rfl, n, rfl⟩ := hrel
    by_cases hlt : k + 1 < l.length
    · obtain ⟨v, hv⟩ : ∃ v, l[k + 1]?.getD 0 = v := ⟨_, rfl⟩
      have c1 : w.cell? ⟨a.block, a.off + (k + 1), none⟩ = some (.int .i64 v) := by rw [← hv]; exact HC.out (k + 1) hlt
      have HV := Aside0.mk hv
      clear hv
      go_wp2
      go_roundw
      case rel => exact ⟨k + 1, by omega, by go_num, by show _ = Value.int .i64 (mn (minTo l k) (l[k + 1]?.getD 0)); rw [HV.out]; rfl, _, rfl⟩
      case measure => simp [intOf]; omega
    · go_wp2
      go_ret
      refine ⟨?_, _, rfl⟩
      rw [show l.length - 1 = k by omega]
      rfl

def even (l : List Int) : Bool := decide (maxTo l (l.length - 1) - 1 ≤ minTo l (l.length - 1))
theorem even_iff (l : List Int) (h1 : 1 ≤ l.length) : even l = true ↔ ∀ i j, i < l.length → j < l.length → l[i]?.getD 0 - l[j]?.getD 0 ≤ 1 := by
  unfold even
  rw [decide_eq_true_iff]
  constructor
  · intro h i j hi hj
    have h1 := maxTo_ge l (l.length - 1) i (by omega)
    have h2 := minTo_le l (l.length - 1) j (by omega)
    omega
  · intro h
    obtain ⟨i, hi, e1⟩ := maxTo_in l (l.length - 1)
    obtain ⟨j, hj, e2⟩ := minTo_in l (l.length - 1)
    have := h i j (by omega) (by omega)
    omega

set_option maxHeartbeats 1000000 in
theorem even_calls (A : Option Addr) (c : Nat) (l : List Int) (w : World) (hr : Kd.C (Kd.int .i64) w A l.length l) (h1 : 1 ≤ l.length) (hb : ∀ i, i < l.length → -1000000 ≤ l[i]?.getD 0 ∧ l[i]?.getD 0 ≤ 1000000) :
    Calls Try.prog 61 #[.slice A l.length c] w fun e w' => e = .returned (.bool (even l)) ∧ ∃ n, w' = w.drewN n := by
  have hl : l.length ≤ 9223372036854775807 := hr.2.1
  have hmb : -1000000 ≤ maxTo l (l.length - 1) ∧ maxTo l (l.length - 1) ≤ 1000000 := by
    obtain ⟨i, hi, e1⟩ := maxTo_in l (l.length - 1)
    have := hb i (by omega)
    omega
  have HW := Aside0.mk (w64 (maxTo l (l.length - 1) - 1) (by omega) (by omega))
  clear hmb
  have hne : ((l.length : Int) == 0) = false := by rw [beq_eq_false_iff_ne]; omega
  clear hb
  go_enter Try.func61, Try.ntmps61
  go_wp2_with (first
    | (go_at_call 75; refine (max_calls A c l _ (Kd.C_drewN hr _) h1).mono ?_; rintro e w' ⟨rfl, n1, rfl⟩)
    | (go_at_call 75; refine (max_calls A c l _ hr h1).mono ?_; rintro e w' ⟨rfl, n1, rfl⟩)
    | (go_at_call 76; refine (min_calls A c l _ (Kd.C_drewN hr _) h1).mono ?_; rintro e w' ⟨rfl, n2, rfl⟩))
  go_ret
  refine ⟨?_, _, rfl⟩
  show Ending.returned (.bool (decide (wrap64 _ ≤ _))) = _
  rw [HW.out]
  rfl

/-- Cells that hold a list. -/
theorem C_of {w : World} {a : Addr} {l : List Int} (hl : l.length ≤ 9223372036854775807) (h : ∀ i, i < l.length → w.cell? (a.add i) = some (.int .i64 (l[i]?.getD 0))) : Kd.C (Kd.int .i64) w (some a) l.length l := by
  refine ⟨rfl, hl, fun _ => ⟨a, rfl, fun j p hj => ⟨[.int .i64 p], rfl, rfl, fun i u hu => ?_⟩⟩⟩
  obtain ⟨hj', _⟩ := List.getElem?_eq_some_iff.1 hj
  have hi : i = 0 := by have := (List.getElem?_eq_some_iff.1 hu).1; simpa using this
  subst hi
  have := h j hj'
  rw [hj] at this
  have e : u = .int .i64 p := by simpa using hu.symm
  subst e
  show w.cell? (a.add (j * 1 + 0)) = _
  rw [Nat.mul_one, Nat.add_zero]
  exact this

theorem least_awake1 : route_Least.f 10 [2, 1, 1] 3 = some 1 := by kernel_rfl
theorem least_awake2 : route_Least.f 10 [3] 3 = some (-1) := by kernel_rfl
theorem even_awake : even [1, 2] = true := by kernel_rfl

theorem least1 (g : Nat) (w : World) (h0 : w.cell? ⟨g, 0, none⟩ = some (.int .i64 2)) (h1 : w.cell? ⟨g, 1, none⟩ = some (.int .i64 1)) (h2 : w.cell? ⟨g, 2, none⟩ = some (.int .i64 1)) :
    Calls Try.prog 74 #[.slice (some ⟨g, 0, none⟩) 3 3, .int .i64 3] w fun e w' => e = .returned (.int .i64 1) ∧ Drawn0 w w' :=
  route_Least.calls 10 (some ⟨g, 0, none⟩) 3 [2, 1, 1] 3 1 w (C_of (by simp) (fun i hi => by
    have h3 : i = 0 ∨ i = 1 ∨ i = 2 := by simp at hi; omega
    rcases h3 with rfl | rfl | rfl
    · exact h0
    · exact h1
    · exact h2)) (by simp) least_awake1
theorem least2 (g : Nat) (w : World) (h0 : w.cell? ⟨g, 0, none⟩ = some (.int .i64 3)) :
    Calls Try.prog 74 #[.slice (some ⟨g, 0, none⟩) 1 1, .int .i64 3] w fun e w' => e = .returned (.int .i64 (-1)) ∧ Drawn0 w w' :=
  route_Least.calls 10 (some ⟨g, 0, none⟩) 1 [3] 3 (-1) w (C_of (by simp) (fun i hi => by
    obtain rfl : i = 0 := by simp at hi; omega
    exact h0)) (by simp) least_awake2
theorem even1 (g : Nat) (w : World) (h0 : w.cell? ⟨g, 0, none⟩ = some (.int .i64 1)) (h1 : w.cell? ⟨g, 1, none⟩ = some (.int .i64 2)) :
    Calls Try.prog 61 #[.slice (some ⟨g, 0, none⟩) 2 2] w fun e w' => e = .returned (.bool true) ∧ ∃ n, w' = w.drewN n := by
  have := even_calls (some ⟨g, 0, none⟩) 2 [1, 2] w (C_of (by simp) (fun i hi => by
    have h3 : i = 0 ∨ i = 1 := by simp at hi; omega
    rcases h3 with rfl | rfl
    · exact h0
    · exact h1)) (by simp) (fun i hi => by
    have h3 : i = 0 ∨ i = 1 := by simp at hi; omega
    rcases h3 with rfl | rfl <;> simp)
  rw [even_awake] at this
  exact this

set_option maxHeartbeats 1000000 in
theorem awake_calls (w : World) : Calls Try.prog 60 #[] w fun e w' => e = .returned (.bool true) ∧ Below w.heap.size w w' := by
  go_enter Try.func60, Try.ntmps60
  go_wp2_with fail
  refine (least1 _ _ (by simp [go_sem]) (by simp [go_sem]) (by simp [go_sem])).mono ?_
  rintro e w' ⟨rfl, ⟨n1, rfl⟩⟩
  go_wp2_with fail
  refine (least2 _ _ (by simp [go_sem])).mono ?_
  rintro e w' ⟨rfl, ⟨n2, rfl⟩⟩
  go_wp2_with fail
  refine (even1 _ _ (by simp [go_sem]) (by simp [go_sem])).mono ?_
  rintro e w' ⟨rfl, n3, rfl⟩
  go_wp2_with fail
  go_ret
  exact ⟨rfl, below_drewN ((below_drewN ((below_drewN ((Below.refl _ _).alloc (Nat.le_refl _) _) _).alloc (by simp) _) _).alloc (by simp <;> omega) _) _⟩
end Go.Proofs.Ytbbaonaahokidaa.Route
