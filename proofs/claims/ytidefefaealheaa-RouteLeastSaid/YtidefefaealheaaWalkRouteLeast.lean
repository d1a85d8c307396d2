/- Who has the least to do, and may take more, of these the first: the walk of RouteLeast. -/
import Derived.Test.YtidefefaealheaaRoute
import Derived.Test.YtidefefaealheaaOpen
namespace Go.Proofs.Ytidefefaealheaa.walkRouteLeast
open Go.RowKit Go.Proofs.Ytidefefaealheaa.Open Go.Proofs.Ytidefefaealheaa.PRouteLeast Go.Proofs.YtidefefaealheaaW.PrintWords Go.Proofs.YtidefefaealheaaW.PrintLast Go.Proofs.YtidefefaealheaaW.PrintMore Go.Proofs.Ytidefefaealheaa.Aid Go.Proofs.Ytidefefaealheaa.Quiet Go.Proofs.Ytidefefaealheaa.Route
set_option linter.unusedVariables false
attribute [local go_sem] max2_int min2_int max_two min_two

set_option maxHeartbeats 2000000 in
/-- There is one. -/
theorem core_some (a : Addr) (n c0 : Nat) (l : List Int) (room : Int) (j : Nat) (W : World) (hmn : mn (n : Int) 12 = (l.length : Int)) (hln : l.length ≤ n) (hnc : n ≤ c0) (h12 : l.length ≤ 12) (hn : n ≤ 9223372036854775807)
    (cell : ∀ i, i < l.length → W.cell? (a.add i) = some (.int .i64 (l[i]?.getD 0))) (hf : route_Least.f (l.length + 1) l room = some (j : Int)) (hj : j < l.length) (hjr : l[j]?.getD 0 < room)
    (hle : ∀ i, i < l.length → l[i]?.getD 0 < room → l[j]?.getD 0 ≤ l[i]?.getD 0 ∧ (l[i]?.getD 0 = l[j]?.getD 0 → j ≤ i)) :
    Calls Try.prog 6 #[.slice (some a) n c0, .int .i64 room] W fun e W' => e = .returned (.bool true) ∧ Below W.heap.size W W' := by
  have HMIN : (if (12 : Int) < (n : Int) then 12 else (n : Int)) = (l.length : Int) := hmn
  have HC := Aside0.mk cell
  have HK := Aside0.mk (C_of (a := a) (by omega) cell)
  have HF := Aside0.mk hf
  have HL := Aside0.mk hle
  obtain ⟨x, hx⟩ : ∃ x, l[j]?.getD 0 = x := ⟨_, rfl⟩
  have cj := cell j hj
  have hblk := World.block_lt_of_cell? _ _ cj
  rw [hx] at cj hjr
  have HX := Aside0.mk hx
  clear hmn cell hf hle hx
  go_enter Try.func6, Try.ntmps6
  go_wp2_with (first | (go_at_call 34; refine (route_Least.calls (l.length + 1) (some a) c0 l room (j : Int) _ HK.out (by omega) HF.out).mono ?_; rintro e w' ⟨rfl, ⟨n1, rfl⟩⟩))
  go_loopw [7] (fun i wr => ∃ k : Nat, k ≤ l.length ∧ i = .int .i64 k ∧ ∃ nd, wr = W.drewN nd) (fun i _ => l.length - (intOf i).toNat)
  case atStart => exact ⟨0, Nat.zero_le _, rfl, _, rfl⟩
  case round =>
    obtain ⟨k, hk, rfl, nd, rfl⟩ := hrel
    by_cases hlt : k < l.length
    · obtain ⟨v, hv⟩ : ∃ v, l[k]?.getD 0 = v := ⟨_, rfl⟩
      have ck := HC.out k hlt
      rw [hv] at ck
      have HV := Aside0.mk hv
      clear hv
      by_cases hr : v < room
      · have hle := HL.out k hlt (by rw [HV.out]; exact hr)
        rw [HV.out, HX.out] at hle
        have hd1 : decide ((j : Int) < 0) = false := decide_eq_false (by omega)
        have hd2 : decide (v < x) = false := by simp; omega
        have hr' : decide (room ≤ v) = false := by simp; omega
        by_cases he : x = v
        · have hd3 : (x == v) = true := by simpa using he
          have hkj : ¬ k < j := by have := hle.2 he.symm; omega
          have hd4 : decide ((k : Int) < (j : Int)) = false := by simp; omega
          have hd5 : decide (k < j) = false := by simp; omega
          have HE := Aside0.mk he
          clear he hle hkj
          go_wp2_with fail
          go_quiet (fail)
          go_wp2
          go_roundw
          case rel => exact ⟨k + 1, by omega, by go_num, _, rfl⟩
          case measure => simp [intOf]; omega
        · have hd3 : (x == v) = false := by simpa using he
          clear he hle
          go_wp2_with fail
          go_quiet (fail)
          go_wp2
          go_roundw
          case rel => exact ⟨k + 1, by omega, by go_num, _, rfl⟩
          case measure => simp [intOf]; omega
      · have hr' : decide (room ≤ v) = true := by simp; omega
        go_wp2
        go_roundw
        case rel => exact ⟨k + 1, by omega, by go_num, _, rfl⟩
        case measure => simp [intOf]; omega
    · have hd1 : decide ((j : Int) < 0) = false := decide_eq_false (by omega)
      have hjr' : decide (x < room) = true := by simpa using hjr
      go_wp2_with (first | (go_at_call 35; refine (awake_calls _).mono ?_; rintro e w3 ⟨rfl, hb3⟩; have c3 : w3.cell? (a.add j) = some (.int .i64 x) := (hb3.cell (p := a.add j) hblk).trans cj))
      go_ret
      exact ⟨rfl, (below_drewN (Below.refl _ _) _).trans hb3⟩

set_option maxHeartbeats 2000000 in
/-- There is none. -/
theorem core_none (a : Addr) (n c0 : Nat) (l : List Int) (room : Int) (W : World) (hmn : mn (n : Int) 12 = (l.length : Int)) (hln : l.length ≤ n) (hnc : n ≤ c0) (h12 : l.length ≤ 12) (hn : n ≤ 9223372036854775807)
    (cell : ∀ i, i < l.length → W.cell? (a.add i) = some (.int .i64 (l[i]?.getD 0))) (hf : route_Least.f (l.length + 1) l room = some (-1))
    (hle : ∀ i, i < l.length → room ≤ l[i]?.getD 0) :
    Calls Try.prog 6 #[.slice (some a) n c0, .int .i64 room] W fun e W' => e = .returned (.bool true) ∧ Below W.heap.size W W' := by
  have HMIN : (if (12 : Int) < (n : Int) then 12 else (n : Int)) = (l.length : Int) := hmn
  have HC := Aside0.mk cell
  have HK := Aside0.mk (C_of (a := a) (by omega) cell)
  have HF := Aside0.mk hf
  have HL := Aside0.mk hle
  clear hmn cell hf hle
  go_enter Try.func6, Try.ntmps6
  go_wp2_with (first | (go_at_call 34; refine (route_Least.calls (l.length + 1) (some a) c0 l room (-1) _ HK.out (by omega) HF.out).mono ?_; rintro e w' ⟨rfl, ⟨n1, rfl⟩⟩))
  go_loopw [7] (fun i wr => ∃ k : Nat, k ≤ l.length ∧ i = .int .i64 k ∧ ∃ nd, wr = W.drewN nd) (fun i _ => l.length - (intOf i).toNat)
  case atStart => exact ⟨0, Nat.zero_le _, rfl, _, rfl⟩
  case round =>
    obtain ⟨k, hk, rfl, nd, rfl⟩ := hrel
    by_cases hlt : k < l.length
    · obtain ⟨v, hv⟩ : ∃ v, l[k]?.getD 0 = v := ⟨_, rfl⟩
      have ck := HC.out k hlt
      rw [hv] at ck
      have hr := HL.out k hlt
      rw [hv] at hr
      have hr' : decide (room ≤ v) = true := by simpa using hr
      clear hv
      go_wp2
      go_roundw
      case rel => exact ⟨k + 1, by omega, by go_num, _, rfl⟩
      case measure => simp [intOf]; omega
    · go_wp2_with (first | (go_at_call 35; refine (awake_calls _).mono ?_; rintro e w3 ⟨rfl, hb3⟩))
      go_ret
      exact ⟨rfl, (below_drewN (Below.refl _ _) _).trans hb3⟩

set_option maxHeartbeats 2000000 in
/-- Of nobody. -/
theorem core0 (room : Int) (W : World) : Calls Try.prog 6 #[.slice none 0 0, .int .i64 room] W fun e W' => e = .returned (.bool true) ∧ Below W.heap.size W W' := by
  have HK := Aside0.mk (fun w => Kd.C_nil (Kd.int .i64) w)
  have HF := Aside0.mk (show route_Least.f 1 [] room = some (-1) by simp [route_Least.f, route_Least.l0])
  go_enter Try.func6, Try.ntmps6
  go_wp2_with (first | (go_at_call 34; refine (route_Least.calls 1 none 0 [] room (-1) _ (HK.out _) (by simp) HF.out).mono ?_; rintro e w' ⟨rfl, ⟨n1, rfl⟩⟩))
  go_loopw [7] (fun i wr => i = .int .i64 0 ∧ ∃ nd, wr = W.drewN nd) (fun i _ => 0)
  case atStart => exact ⟨rfl, _, rfl⟩
  case round =>
    obtain ⟨rfl, nd, rfl⟩ := hrel
    go_wp2_with (first | (go_at_call 35; refine (awake_calls _).mono ?_; rintro e w3 ⟨rfl, hb3⟩))
    go_ret
    exact ⟨rfl, (below_drewN (Below.refl _ _) _).trans hb3⟩

theorem walk (A0 : Option Addr) (c0 : Nat) (l0 : List (Pts [.int .i64])) (a1 : Int) (W : World) (ro0 : RowsOf W [.int .i64] A0 l0) (w0 : ∀ x ∈ l0, wfs [.int .i64] x) (lc0 : l0.length ≤ c0) (cm0 : c0 ≤ maxLen) (nn0 : A0 = none → c0 = 0) (w1 : (Lit.int .i64 a1).wf = true) :
    Calls Try.prog 6 #[.slice A0 l0.length c0, .int .i64 a1] W fun e W' => e = .returned (.bool true) ∧ Below W.heap.size W W' := by
  have hl0 : l0.length ≤ 9223372036854775807 := by unfold maxLen at cm0; omega
  cases A0 with
  | none =>
    obtain rfl : c0 = 0 := nn0 rfl
    rw [show l0.length = 0 by omega]
    exact core0 a1 W
  | some a =>
    obtain ⟨l, hl⟩ : ∃ l : List Int, l = (l0.take 12).map (fun x => x.1) := ⟨_, rfl⟩
    have hlen : l.length = min 12 l0.length := by rw [hl]; simp
    have hmn : mn (l0.length : Int) 12 = (l.length : Int) := by unfold mn; split <;> omega
    have cell : ∀ i, i < l.length → W.cell? (a.add i) = some (.int .i64 (l[i]?.getD 0)) := fun i hi => by
      have hi' : i < l0.length := by omega
      obtain ⟨b, hb, h⟩ := ro0 i hi'
      injection hb with hb
      subst hb
      have := h 0 (by decide)
      simp only [List.length_cons, List.length_nil, Nat.add_zero] at this
      rw [show i * (0 + 1) = i by omega] at this
      rw [this, hl, List.getElem?_map, List.getElem?_take, if_pos (by omega), List.getElem?_eq_getElem hi']
      rfl
    obtain ⟨r, hr, h⟩ := least_eq l a1 (by omega)
    rcases h with ⟨rfl, h⟩ | ⟨j, rfl, hj, hjr, h⟩
    · exact core_none a l0.length c0 l a1 W hmn (by omega) lc0 (by omega) hl0 cell hr h
    · exact core_some a l0.length c0 l a1 j W hmn (by omega) lc0 (by omega) hl0 cell hr hj hjr h
end Go.Proofs.Ytidefefaealheaa.walkRouteLeast
