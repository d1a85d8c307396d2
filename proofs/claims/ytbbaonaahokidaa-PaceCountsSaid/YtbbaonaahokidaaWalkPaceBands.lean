/- A time's band, and the least time of each band: the walk of PaceBands. -/
import Derived.Test.YtbbaonaahokidaaPaceAwake
namespace Go.Proofs.Ytbbaonaahokidaa.walkPaceBands
open Go.RowKit Go.Proofs.Ytbbaonaahokidaa.PPaceBands Go.Proofs.YtbbaonaahokidaaW.PrintWords Go.Proofs.YtbbaonaahokidaaW.PrintLast Go.Proofs.YtbbaonaahokidaaW.PrintMore Go.Proofs.Ytbbaonaahokidaa.Aid Go.Proofs.Ytbbaonaahokidaa.Quiet Go.Proofs.Ytbbaonaahokidaa.Blk Go.Proofs.Ytbbaonaahokidaa.State Go.Proofs.Ytbbaonaahokidaa.Part Go.Proofs.Ytbbaonaahokidaa.Pace
set_option linter.unusedVariables false
attribute [local go_sem] max2_int min2_int max_two min_two

theorem bands : ∀ (m k c i : Nat), c < 2 ^ m → m < k → m + i ≤ 100 → c < 2 ^ 60 →
    ∃ n : Nat, n ≤ m ∧ pace_Band.l0 k (c : Int) (i : Int) = some ((i + n : Nat) : Int) ∧ cablewaylaw52_band.l0 k (i : Int) (c : Int) = some ((i + n : Nat) : Int) ∧ c < 2 ^ n ∧ (n = 0 ∨ 2 ^ (n - 1) ≤ c) := by
  intro m
  induction m with
  | zero =>
    intro k c i h1 h2 h3 h4
    obtain ⟨k, rfl⟩ : ∃ q, k = q + 1 := ⟨k - 1, by omega⟩
    have hc : c = 0 := by simpa using h1
    subst hc
    exact ⟨0, by omega, by simp [pace_Band.l0], by simp [cablewaylaw52_band.l0], by decide, Or.inl rfl⟩
  | succ m ih =>
    intro k c i h1 h2 h3 h4
    obtain ⟨k, rfl⟩ : ∃ q, k = q + 1 := ⟨k - 1, by omega⟩
    by_cases hc : c = 0
    · subst hc
      exact ⟨0, by omega, by simp [pace_Band.l0], by simp [cablewaylaw52_band.l0], by decide, Or.inl rfl⟩
    · have hp : 2 ^ (m + 1) = 2 * 2 ^ m := by rw [Nat.pow_succ, Nat.mul_comm]
      obtain ⟨n, e1, e2, e3, e4, e5⟩ := ih k (c / 2) (i + 1) (by omega) (by omega) (by omega) (by omega)
      have hq : 2 ^ (n + 1) = 2 * 2 ^ n := by rw [Nat.pow_succ, Nat.mul_comm]
      refine ⟨n + 1, by omega, ?_, ?_, by omega, Or.inr ?_⟩
      · simp only [pace_Band.l0]
        rw [if_pos (by omega), w64 _ (by omega) (by omega), show ((c : Int) / 2) = ((c / 2 : Nat) : Int) by omega, show ((i : Int) + 1) = ((i + 1 : Nat) : Int) by omega, e2]
        congr 1
        omega
      · simp only [cablewaylaw52_band.l0]
        rw [if_pos (by omega), w64 _ (by omega) (by omega), Int.tdiv_eq_ediv_of_nonneg (by omega), show ((c : Int) / 2) = ((c / 2 : Nat) : Int) by omega, w64 _ (by omega) (by omega), show ((i : Int) + 1) = ((i + 1 : Nat) : Int) by omega, e3]
        congr 1
        omega
      · rw [Nat.add_sub_cancel]
        rcases e5 with rfl | e5
        · simp; omega
        · by_cases hn : n = 0
          · subst hn; simp; omega
          · have hr : 2 ^ n = 2 * 2 ^ (n - 1) := by rw [← Nat.pow_succ']; congr 1; omega
            omega
set_option maxRecDepth 100000 in
theorem low_f : ∀ n : Nat, n < 42 → pace_Low.f (n : Int) = some (if n = 0 then 0 else ((2 ^ (n - 1) : Nat) : Int)) := by decide +kernel

set_option maxHeartbeats 2000000 in
set_option maxRecDepth 100000 in
theorem core (t b c lw ln l1 : Int) (n kk : Nat) (W : World) (hc : cablewayref03_Clamp.f t = some c) (hB : pace_Band.f kk t = some (n : Int)) (hb : cablewaylaw52_band.f kk t = some (n : Int)) (hn : n ≤ 41) (hL : pace_Low.f b = some lw)
    (hlw : lw = if b ≤ 0 then 0 else if b ≤ 41 then ((2 ^ (b.toNat - 1) : Nat) : Int) else 1099511627776) (hln : pace_Low.f (n : Int) = some ln) (hle : ln ≤ c) (hl1 : n ≠ 41 → pace_Low.f ((n : Int) + 1) = some l1 ∧ c < l1) :
    Calls Try.prog 11 #[.int .i64 t, .int .i64 b] W fun e W' => e = .returned (.bool true) ∧ Below W.heap.size W W' := by
  have D := fun {f : FuncId} {args : Array Value} {w : World} {v : Value} (h : Calls Try.prog f args w fun e w' => e = .returned v ∧ Drawn0 w w') => h.mono (R' := fun e w' => e = .returned v ∧ ∃ m, w' = w.drewN m) fun _ _ ⟨a, b⟩ => ⟨a, b.out⟩
  have KB := Aside0.mk (fun w => pace_Band.calls kk t n w hB)
  have KC := Aside0.mk (fun w => D (cablewayref03_Clamp.calls t c w hc))
  have Kb := Aside0.mk (fun w => D (cablewaylaw52_band.calls kk t n w hb))
  have KL := Aside0.mk (fun w => D (pace_Low.calls b lw w hL))
  have KN := Aside0.mk (fun w => D (pace_Low.calls n ln w hln))
  have K1 := Aside0.mk (fun (h : n ≠ 41) w => D (pace_Low.calls ((n : Int) + 1) l1 w (hl1 h).1))
  have H1 := Aside0.mk (fun h : n ≠ 41 => (hl1 h).2)
  have HLW := Aside0.mk hlw
  have dle : decide (ln ≤ c) = true := decide_eq_true hle
  have HN := Aside0.mk hn
  clear D hc hB hb hL hlw hln hl1 hn
  obtain ⟨z, hz⟩ : ∃ z, decide (b ≤ 0) = z := ⟨_, rfl⟩
  have HZ := Aside0.mk hz
  go_enter Try.func11, Try.ntmps11
  go_wp2_with fail
  refine (KB.out _).mono ?_
  rintro e w1 ⟨rfl, hb1⟩
  have B1 := Aside0.mk hb1
  clear hb1
  go_upto_if 12 with fail
  go_cut [6, 7] from 13 (fun v u wx => v = .int .i64 lw ∧ w1 = wx)
  case first =>
    have h3 := HLW.out
    by_cases h0 : b ≤ 0
    · obtain rfl : z = true := by rw [← HZ.out]; exact decide_eq_true h0
      rw [if_pos h0] at h3
      clear hz h0
      subst h3
      go_wp2_with fail
      go_meet
      exact ⟨rfl, rfl⟩
    · obtain rfl : z = false := by rw [← HZ.out]; exact decide_eq_false h0
      rw [if_neg h0] at h3
      clear hz
      by_cases h41 : b ≤ 41
      · have d1 : decide (b ≤ 41) = true := decide_eq_true h41
        rw [if_pos h41] at h3
        obtain ⟨m, rfl⟩ := Int.eq_ofNat_of_zero_le (show 0 ≤ b by omega)
        have hm : 1 ≤ m ∧ m ≤ 41 := by omega
        have H3 := Aside0.mk h3
        clear h0 h41 h3
        go_wp2_with fail
        go_loopg [6, 7] (m - 1) (fun gg v i wx => ∃ q : Nat, gg + q = m - 1 ∧ i = .int .i64 ((q + 1 : Nat) : Int) ∧ v = .int .i64 ((2 ^ q : Nat) : Int) ∧ w1 = wx)
        case atStart => exact ⟨0, by omega, rfl, rfl, rfl⟩
        case round =>
          obtain ⟨q, hq, rfl, rfl, rfl⟩ := hrel
          have HQ := Aside0.mk hq
          obtain ⟨q1, hq1⟩ : ∃ q1, q + 1 = q1 := ⟨_, rfl⟩
          obtain ⟨pw, hpw⟩ : ∃ pw, 2 ^ q = pw := ⟨_, rfl⟩
          have hpb : pw ≤ 2 ^ 41 := by rw [← hpw]; exact Nat.pow_le_pow_right (by omega) (by omega)
          have hpb2 : pw ≤ 2199023255552 := hpb
          rw [hq1, hpw]
          have HP := Aside0.mk (And.intro hq1 hpw)
          clear hpb hq hq1 hpw
          by_cases hlt : q1 < m
          · have d2 : decide ((q1 : Int) < (m : Int)) = true := decide_eq_true (by omega)
            go_wp2_with fail
            go_roundg (m - 1 - (q + 1))
            case measure => have := HQ.out; have := HP.out.1; omega
            case rel =>
              have h1 := HP.out.1
              have h2 := HP.out.2
              exact ⟨q + 1, by have := HQ.out; omega, by rw [h1]; go_num, by rw [Nat.pow_succ, h2]; go_num, rfl⟩
          · have d2 : decide ((q1 : Int) < (m : Int)) = false := decide_eq_false (by omega)
            have hlw : (pw : Int) = lw := by
              rw [H3.out]
              have h1 := HQ.out
              have h2 := HP.out
              have h3 : (m : Int).toNat - 1 = q := by omega
              rw [h3, h2.2]
            have HL := Aside0.mk hlw
            clear hlw
            go_wp2_with fail
            go_meet
            exact ⟨by rw [HL.out], rfl⟩
      · have d1 : decide (b ≤ 41) = false := decide_eq_false h41
        rw [if_neg h41] at h3
        subst h3
        go_wp2_with fail
        go_meet
        exact ⟨rfl, rfl⟩
  case rest =>
    obtain ⟨rfl, rfl⟩ := hcut
    go_wp2_with fail
    refine (KC.out _).mono ?_
    rintro e w2 ⟨rfl, n2, rfl⟩
    go_wp2_with fail
    refine (awake_calls _).mono ?_
    rintro e w3 ⟨rfl, hb3⟩
    have B3 := Aside0.mk ((below_drewN B1.out n2).trans (hb3.mono B1.out.size))
    clear hb3
    by_cases h41 : n = 41
    · have d4 : ((n : Int) == 41) = true := by rw [beq_iff_eq]; omega
      clear h41
      go_wp2_with (first
        | (go_at_call 50; refine (Kb.out _).mono ?_; rintro e wn ⟨rfl, m1, rfl⟩)
        | (go_at_call 51; first | (with_reducible refine (KN.out _).mono ?_; rintro e wn ⟨rfl, m3, rfl⟩) | (with_reducible refine (KL.out _).mono ?_; rintro e wn ⟨rfl, m2, rfl⟩)))
      go_ret
      exact ⟨rfl, below_drewN B3.out _⟩
    · have d4 : ((n : Int) == 41) = false := by rw [beq_eq_false_iff_ne]; omega
      have hn40 : n ≤ 40 := by have := HN.out; omega
      have hcl := H1.out h41
      have dl : decide (c < l1) = true := decide_eq_true hcl
      have K2 := Aside0.mk (K1.out h41)
      go_wp2_with (first
        | (go_at_call 50; refine (Kb.out _).mono ?_; rintro e wn ⟨rfl, m1, rfl⟩)
        | (go_at_call 51; first | (with_reducible refine (K2.out _).mono ?_; rintro e wn ⟨rfl, m4, rfl⟩) | (with_reducible refine (KN.out _).mono ?_; rintro e wn ⟨rfl, m3, rfl⟩) | (with_reducible refine (KL.out _).mono ?_; rintro e wn ⟨rfl, m2, rfl⟩)))
      go_ret
      exact ⟨rfl, below_drewN B3.out _⟩

theorem walk (a0 : Int) (a1 : Int) (W : World) (w0 : (Lit.int .i64 a0).wf = true) (w1 : (Lit.int .i64 a1).wf = true) :
    Calls Try.prog 11 #[.int .i64 a0, .int .i64 a1] W fun e W' => e = .returned (.bool true) ∧ Below W.heap.size W W' := by
  obtain ⟨cn, hcn, hcb⟩ : ∃ cn : Nat, mn (mx a0 0) 1099511627776 = (cn : Int) ∧ cn ≤ 1099511627776 := by
    have h : 0 ≤ mn (mx a0 0) 1099511627776 ∧ mn (mx a0 0) 1099511627776 ≤ 1099511627776 := by unfold mn mx; split <;> split <;> omega
    exact ⟨(mn (mx a0 0) 1099511627776).toNat, by omega, by omega⟩
  have hc1 : ticks_Clamp.f a0 = some (cn : Int) := by unfold ticks_Clamp.f; rw [hcn]
  have hc2 : cablewayref03_Clamp.f a0 = some (cn : Int) := by
    rw [← hcn]
    unfold cablewayref03_Clamp.f mn mx
    by_cases h1 : a0 < 0
    · rw [if_pos h1, if_pos h1, if_neg (by omega)]
    · rw [if_neg h1, if_neg h1]
      by_cases h2 : a0 > 1099511627776
      · rw [if_pos h2, if_pos h2]
      · rw [if_neg h2, if_neg h2]
  have p41 : (2 : Nat) ^ 41 = 2199023255552 := by decide
  have p60 : (2 : Nat) ^ 60 = 1152921504606846976 := by decide
  obtain ⟨n, e1, e2, e3, e4, e5⟩ := bands 41 50 cn 0 (by omega) (by omega) (by omega) (by omega)
  rw [Nat.zero_add] at e2 e3
  have hL : ∃ lw, pace_Low.f a1 = some lw ∧ lw = if a1 ≤ 0 then 0 else if a1 ≤ 41 then ((2 ^ (a1.toNat - 1) : Nat) : Int) else 1099511627776 := by
    by_cases h0 : a1 ≤ 0
    · exact ⟨0, by unfold pace_Low.f; rw [if_pos h0], by rw [if_pos h0]⟩
    · by_cases h41 : a1 ≤ 41
      · have h := low_f a1.toNat (by omega)
        rw [show ((a1.toNat : Nat) : Int) = a1 by omega, if_neg (by omega)] at h
        exact ⟨_, h, by rw [if_neg h0, if_pos h41]⟩
      · exact ⟨1099511627776, by unfold pace_Low.f; rw [if_neg h0, if_pos (by omega)], by rw [if_neg h0, if_neg h41]⟩
  obtain ⟨lw, hL1, hL2⟩ := hL
  refine core a0 a1 cn lw _ ((2 ^ n : Nat) : Int) n 50 W hc2 (by unfold pace_Band.f; rw [hc1]; exact e2) (by unfold cablewaylaw52_band.f; rw [hc2]; exact e3) e1 hL1 hL2 (low_f n (by omega)) ?_ (fun h41 => ⟨?_, by omega⟩)
  · split
    · omega
    · rcases e5 with h | h
      · contradiction
      · omega
  · have h := low_f (n + 1) (by omega)
    rw [if_neg (by omega), Nat.add_sub_cancel] at h
    exact h
end Go.Proofs.Ytbbaonaahokidaa.walkPaceBands
