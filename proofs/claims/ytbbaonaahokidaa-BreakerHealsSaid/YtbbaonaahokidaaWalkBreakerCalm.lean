/- As long as less went ill than opens it, a breaker stays shut: the walk of BreakerCalm. -/
import Derived.Test.YtbbaonaahokidaaBreaker5
import Derived.Test.YtbbaonaahokidaaOpen
import Derived.Deep.CutBlock
namespace Go.Proofs.Ytbbaonaahokidaa.walkBreakerCalm
open Go.RowKit Go.Proofs.YtbbaonaahokidaaW.PrintWords Go.Proofs.YtbbaonaahokidaaW.PrintLast Go.Proofs.YtbbaonaahokidaaW.PrintMore Go.Proofs.Ytbbaonaahokidaa.Open Go.Proofs.Ytbbaonaahokidaa.Aid Go.Proofs.Ytbbaonaahokidaa.Quiet Go.Proofs.Ytbbaonaahokidaa.Blk Go.Proofs.Ytbbaonaahokidaa.State Go.Proofs.Ytbbaonaahokidaa.Vals Go.Proofs.Ytbbaonaahokidaa.Window Go.Proofs.Ytbbaonaahokidaa.WinRef Go.Proofs.Ytbbaonaahokidaa.Breaker
set_option linter.unusedVariables false
set_option linter.unusedSimpArgs false
theorem calm_step (i a b k : Nat) (hk : 3 ≤ k ∧ k ≤ 10) (hi : i ≤ 62) (hab : a + b = i) (hbi : b = i / k) (q : Bool) (hq : ((i : Int) % (k : Int) != (k : Int) - 1) = q) :
    ∃ a2 b2 : Nat, ((a2 : Int) = if q then (a : Int) + 1 else a) ∧ ((b2 : Int) = if q then (b : Int) else b + 1) ∧ a2 + b2 = i + 1 ∧ b2 = (i + 1) / k ∧ (decide ((4 : Int) ≤ a2 + b2) && decide (((a2 : Int) + b2) * 50 ≤ b2 * 100)) = false := by
  have hm : k * (i / k) + i % k = i := Nat.div_add_mod i k
  have hl : i % k < k := Nat.mod_lt _ (by omega)
  have h3 : (i + 1) / k ≤ (i + 1) / 3 := Nat.div_le_div_left hk.1 (by omega)
  have fin : ∀ a2 b2 : Nat, a2 + b2 = i + 1 → b2 = (i + 1) / k → (decide ((4 : Int) ≤ a2 + b2) && decide (((a2 : Int) + b2) * 50 ≤ b2 * 100)) = false := fun a2 b2 h1 h2 => by
    have : ¬ (((a2 : Int) + b2) * 50 ≤ b2 * 100) := by omega
    rw [decide_eq_false this, Bool.and_false]
  have e1 : ((i : Int) % (k : Int)) = ((i % k : Nat) : Int) := by omega
  rw [e1] at hq
  obtain ⟨c, hc⟩ : ∃ c, k * (i / k) = c := ⟨_, rfl⟩
  obtain ⟨r, hr⟩ : ∃ r, i % k = r := ⟨_, rfl⟩
  rw [hc, hr] at hm
  rw [hr] at hl hq
  by_cases hrk : r = k - 1
  · have : q = false := by rw [← hq]; simp; omega
    subst this
    have hd : (i + 1) / k = i / k + 1 := Nat.div_eq_of_lt_le (by rw [Nat.add_mul, Nat.mul_comm, hc]; omega) (by rw [Nat.add_mul, Nat.add_mul, Nat.mul_comm, hc]; omega)
    exact ⟨a, b + 1, rfl, by simp, by omega, by omega, fin _ _ (by omega) (by omega)⟩
  · have : q = true := by rw [← hq]; simp; omega
    subst this
    have hd : (i + 1) / k = i / k := Nat.div_eq_of_lt_le (by rw [Nat.mul_comm, hc]; omega) (by rw [Nat.add_mul, Nat.mul_comm, hc]; omega)
    exact ⟨a + 1, b, by simp, rfl, by omega, by omega, fin _ _ (by omega) (by omega)⟩
set_option maxHeartbeats 2000000 in
set_option maxRecDepth 100000 in
theorem core (a0 a1 a2 a3 a4 a5 n ill r1 r2 r3 r4 r5 r6 : Int) (B k m : Nat) (cl wd cc co t1 : Int) (W : World) (hn : PBreakerHeals.cablewaylaw17_near.f a0 a1 a2 a3 a4 a5 = some (r1, r2, r3, r4, r5, r6))
    (hB : mn (mx r1 1) 16 = (B : Int)) (hc : PPaceBands.ticks_Clamp.f r2 = some cl) (hwd : mx cl 1 = wd) (hwd1 : 1 ≤ wd ∧ wd ≤ 1099511627776) (hB1 : 1 ≤ B ∧ B ≤ 16) (ht : (if r6 < 1 then 1 else r6) = t1) (hcc : PBreakerHeals.ticks_Clamp.f r5 = some cc) (hco : (if cc < 1 then 1 else cc) = co)
    (hm : Go.bits .and .i64 n 63 = (m : Int)) (hm1 : m ≤ 63) (hk : Go.bits .and .i64 ill 7 + 3 = (k : Int)) (hk1 : 3 ≤ k ∧ k ≤ 10) :
    Calls Try.prog 9 #[.agg #[.int .i64 a0, .int .i64 a1, .int .i64 a2, .int .i64 a3, .int .i64 a4, .int .i64 a5], .int .i64 n, .int .i64 ill] W fun e W' => e = .returned (.bool true) ∧ Below W.heap.size W W' := by
  have KN := Aside0.mk (fun w => PBreakerHeals.cablewaylaw17_near.calls a0 a1 a2 a3 a4 a5 r1 r2 r3 r4 r5 r6 w hn)
  have NEW := Aside0.mk (fun w => new_at r1 r2 4 50 r5 r6 4 50 50 cc co t1 cl wd B w hB hc hwd hwd1 hB1 rfl rfl rfl ht hcc hco)
  have HK := Aside0.mk (And.intro hm1 hk1)
  have hu68 := Try.underlying68
  clear hn hB hc hwd hwd1 hB1 ht hcc hco
  go_enter Try.func9, Try.ntmps9
  go_wp2_with fail
  refine (KN.out _).mono ?_
  rintro e w1 ⟨rfl, hb⟩
  have B1 := Aside0.mk (show Below W.heap.size W (w1.alloc (.cells #[.int .i64 r1, .int .i64 r2, .int .i64 4, .int .i64 50, .int .i64 r5, .int .i64 r6] 68)) from by
    have h0 := (Below.refl W.heap.size W).alloc (Nat.le_refl _) (.cells #[.int .i64 a0, .int .i64 a1, .int .i64 a2, .int .i64 a3, .int .i64 a4, .int .i64 a5] 68)
    have h1 := h0.trans (hb.mono h0.size)
    exact h1.alloc h1.size _)
  clear hb
  go_wp2_with fail
  refine (NEW.out _).mono ?_
  rintro e w2 ⟨br, g, gl, rfl, hbr, hge, hb⟩
  have R2 := Aside0.mk (show Br w2 br g gl B r1 r2 4 50 co t1 wd 0 0 0 0 0 (L0 B (0 : Nat) (0 : Nat)) by rw [L0_zero B hbr.win.hB.1] at hbr; exact hbr)
  have B2 := Aside0.mk (B1.out.trans (hb.mono B1.out.size))
  have HS := Aside0.mk (show ∀ x ∈ [br, g, gl], W.heap.size ≤ x by have := B1.out.size; intro x hx; simp at hx; omega)
  clear hb hbr hge
  go_wp2_with fail
  go_loopg [10] m (fun gg v10 wx => ∃ i a b : Nat, gg + i = m ∧ v10 = .int .i64 (i : Int) ∧ a + b = i ∧ b = i / k ∧ Br wx br g gl B r1 r2 4 50 co t1 wd 0 0 0 0 0 (L0 B a b) ∧ Below W.heap.size W wx)
  case atStart => exact ⟨0, 0, 0, by omega, rfl, rfl, by simp, R2.out, B2.out⟩
  case round =>
    clear R2 B2 B1
    obtain ⟨i, a, b, hi, rfl, hab, hbi, hR, hB⟩ := hrel
    have R := Aside0.mk hR
    have BB := Aside0.mk hB
    have HI := Aside0.mk (And.intro hi (And.intro hab hbi))
    clear hR hB hab hbi
    by_cases hlt : i < m
    · have d1 : decide ((i : Int) < (m : Int)) = true := decide_eq_true (by omega)
      clear hi
      go_wp2_with fail
      refine (R.out.st0 0).mono ?_
      rintro e w3 ⟨rfl, h1, h2⟩
      have R3 := Aside0.mk h1
      have B3 := Aside0.mk (h2.below BB.out HS.out BB.out.size)
      clear h1 h2 R BB
      go_wp2_with fail
      refine (R3.out.may0 0).mono ?_
      rintro e w4 ⟨rfl, h1, h2⟩
      have R4 := Aside0.mk h1
      have B4 := Aside0.mk (h2.below B3.out HS.out B3.out.size)
      clear h1 h2 R3 B3
      go_wp2_with fail
      obtain ⟨q, hq⟩ : ∃ q, ((i : Int) % (k : Int) != (k : Int) - 1) = q := ⟨_, rfl⟩
      obtain ⟨a2, b2, ha2, hb2, hab2, hbk2, hw⟩ := calm_step i a b k HK.out.2 (by have := HK.out.1; omega) HI.out.2.1 HI.out.2.2 q hq
      rw [hq]
      have HA := Aside0.mk (And.intro hab2 hbk2)
      refine (note_calm br g gl B r1 r2 4 50 co t1 0 0 0 wd a b a2 b2 q w4 R4.out (by have := HI.out.2.1; have := HK.out.1; omega) (by have := HI.out.2.1; have := HK.out.1; omega) ⟨ha2, hb2⟩ (by omega) hw).mono ?_
      clear hq ha2 hb2 hw hab2 hbk2
      rintro e w5 ⟨rfl, h1, h2⟩
      have R5 := Aside0.mk h1
      have B5 := Aside0.mk (h2.below B4.out HS.out B4.out.size)
      clear h1 h2 R4 B4
      go_wp2_with fail
      go_roundg (m - (i + 1))
      case measure => have := HI.out.1; omega
      case rel => exact ⟨i + 1, a2, b2, by have := HI.out.1; omega, by go_num, HA.out.1, HA.out.2, R5.out, B5.out⟩
    · have d1 : decide ((i : Int) < (m : Int)) = false := decide_eq_false (by omega)
      go_wp2_with fail
      refine (awake_br _).mono ?_
      rintro e w3 ⟨rfl, hb⟩
      have R3 := Aside0.mk (R.out.below' hb)
      have B3 := Aside0.mk (BB.out.trans (hb.mono BB.out.size))
      clear hb R BB
      go_wp2_with fail
      refine (R3.out.st0 0).mono ?_
      rintro e w4 ⟨rfl, h1, h2⟩
      have R4 := Aside0.mk h1
      have B4 := Aside0.mk (h2.below B3.out HS.out B3.out.size)
      clear h1 h2 R3 B3
      go_wp2_with fail
      refine (R4.out.may0 0).mono ?_
      rintro e w5 ⟨rfl, h1, h2⟩
      have B5 := Aside0.mk (h2.below B4.out HS.out B4.out.size)
      clear h1 h2 R4 B4
      go_wp2_with fail
      go_ret
      exact ⟨rfl, B5.out⟩
theorem clampB (z : Int) : ∃ c, PPaceBands.ticks_Clamp.f z = some c ∧ PBreakerHeals.ticks_Clamp.f z = some c ∧ (0 ≤ c ∧ c ≤ 1099511627776) := ⟨mn (mx z 0) 1099511627776, rfl, rfl, by unfold mn mx; split <;> split <;> omega⟩
theorem walk (a0_0 : Int) (a0_1 : Int) (a0_2 : Int) (a0_3 : Int) (a0_4 : Int) (a0_5 : Int) (a1 : Int) (a2 : Int) (W : World) (w0_0 : (Lit.int .i64 a0_0).wf = true) (w0_1 : (Lit.int .i64 a0_1).wf = true) (w0_2 : (Lit.int .i64 a0_2).wf = true) (w0_3 : (Lit.int .i64 a0_3).wf = true) (w0_4 : (Lit.int .i64 a0_4).wf = true) (w0_5 : (Lit.int .i64 a0_5).wf = true) (w1 : (Lit.int .i64 a1).wf = true) (w2 : (Lit.int .i64 a2).wf = true) :
    Calls Try.prog 9 #[.agg #[.int .i64 a0_0, .int .i64 a0_1, .int .i64 a0_2, .int .i64 a0_3, .int .i64 a0_4, .int .i64 a0_5], .int .i64 a1, .int .i64 a2] W fun e W' => e = .returned (.bool true) ∧ Below W.heap.size W W' := by
  obtain ⟨r1, hr1⟩ : ∃ x, Go.bits .and .i64 a0_0 3 = x := ⟨_, rfl⟩
  obtain ⟨r2, hr2⟩ : ∃ x, Go.bits .and .i64 a0_1 7 = x := ⟨_, rfl⟩
  obtain ⟨r5, hr5⟩ : ∃ x, Go.bits .and .i64 a0_4 15 = x := ⟨_, rfl⟩
  obtain ⟨r6, hr6⟩ : ∃ x, Go.bits .and .i64 a0_5 3 = x := ⟨_, rfl⟩
  have hb : 1 ≤ mn (mx r1 1) 16 ∧ mn (mx r1 1) 16 ≤ 16 := by unfold mn mx; split <;> split <;> omega
  obtain ⟨B, hB⟩ := Int.eq_ofNat_of_zero_le (show 0 ≤ mn (mx r1 1) 16 by omega)
  obtain ⟨cl, hcl, _, hcb⟩ := clampB r2
  obtain ⟨cc, _, hcc, hccb⟩ := clampB r5
  have hwd : 1 ≤ mx cl 1 ∧ mx cl 1 ≤ 1099511627776 := by unfold mx; split <;> omega
  exact core a0_0 a0_1 a0_2 a0_3 a0_4 a0_5 a1 a2 r1 r2 _ _ r5 r6 B (a2 % 8 + 3).toNat (a1 % 64).toNat cl (mx cl 1) cc _ _ W (by rw [← hr1, ← hr2, ← hr5, ← hr6]; rfl) hB hcl rfl hwd (by omega) rfl hcc rfl (by rw [i64_and63]; omega) (by omega) (by rw [i64_and7]; omega) (by omega)
end Go.Proofs.Ytbbaonaahokidaa.walkBreakerCalm
