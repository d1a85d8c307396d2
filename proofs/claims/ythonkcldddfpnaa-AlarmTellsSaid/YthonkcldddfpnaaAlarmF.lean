/- What an alarm's functions come to. -/
import Derived.Test.YthonkcldddfpnaaAlarmP
import Derived.Test.YthonkcldddfpnaaAid
namespace Go.Proofs.Ythonkcldddfpnaa.AlarmF
open Go.RowKit Go.Proofs.Ythonkcldddfpnaa.PAlarmAsks Go.Proofs.YthonkcldddfpnaaW.PrintWords Go.Proofs.YthonkcldddfpnaaW.PrintLast Go.Proofs.Ythonkcldddfpnaa.Aid
/-- May an alarm be? -/
def mayB (t c s g h : Int) : Bool := decide (0 ≤ t ∧ t < 1099511627776 ∧ 1 ≤ h ∧ h ≤ 3 ∧ 0 ≤ c ∧ c < 4 ∧ 0 ≤ s ∧ s < 16 ∧ 1 ≤ g ∧ g ≤ 16777215)
theorem may_f (t c s g h : Int) : alarm_May.f t c s g h = some (mayB t c s g h) := by
  unfold alarm_May.f mayB
  repeat' split
  all_goals (congr 1; first | (simp; omega) | (rw [Bool.eq_iff_iff]; simp; omega))
theorem ask_yes (t c s g h : Int) (hm : mayB t c s g h = true) : alarm_Ask.f t c s g h = some (9, c, 0, s, g, 0, h, false, false, t / 4294967296, t % 4294967296, true) := by
  have h2 := of_decide_eq_true hm
  have e : mn (mx t 0) 1099511627775 = t := by unfold mn mx; split <;> split <;> omega
  simp [alarm_Ask.f, may_f, hm, frame_At.f, e]
theorem ask_no (t c s g h : Int) (hm : mayB t c s g h = false) : alarm_Ask.f t c s g h = some (0, 0, 0, 0, 0, 0, 0, false, false, 0, 0, false) := by
  simp [alarm_Ask.f, may_f, hm]
theorem when_f (k c v s g ca h : Int) (b d : Bool) (t : Int) (h0 : 0 ≤ t) (h1 : t < 1099511627776) : frame_When.f k c v s g ca h b d (t / 4294967296) (t % 4294967296) = some t := by
  obtain ⟨n, rfl⟩ := Int.eq_ofNat_of_zero_le h0
  have e1 : (n : Int) / 4294967296 = ((n / 4294967296 : Nat) : Int) := by omega
  have e2 : (n : Int) % 4294967296 = ((n % 4294967296 : Nat) : Int) := by omega
  have e3 : Go.bits .and .i64 ((n / 4294967296 : Nat) : Int) 255 = ((n / 4294967296 : Nat) : Int) := by rw [i64_and255]; omega
  unfold frame_When.f
  rw [e1, e2, e3, w64 _ (by omega) (by omega), w64 _ (by omega) (by omega)]
  rw [show ((n / 4294967296 : Nat) : Int) * 4294967296 = ((2 ^ 32 * (n / 4294967296) : Nat) : Int) by omega]
  rw [(bits_nat .i64 62 (by decide) (fun m h h' => by rw [IntKind.wrap_i64]; omega) _ _ (by omega) (by omega)).2]
  rw [Nat.or_comm, ← Nat.two_pow_add_eq_or_of_lt (by omega)]
  congr 1
  unfold mn
  split <;> omega
theorem of_yes (t c s g h : Int) (hm : mayB t c s g h = true) : alarm_Of.f 9 c 0 s g 0 h false false (t / 4294967296) (t % 4294967296) = some (t, c, s, g, h, true) := by
  have h2 := of_decide_eq_true hm
  simp [alarm_Of.f, when_f _ _ _ _ _ _ _ _ _ t h2.1 h2.2.1, may_f, hm]
theorem of_no (k c v s g ca h : Int) (b d : Bool) (q u : Int) (hk : k ≠ 9) : alarm_Of.f k c v s g ca h b d q u = some (0, 0, 0, 0, 0, false) := by
  simp [alarm_Of.f, hk]
theorem tell_f (t c s g h : Int) : alarm_Tell.f t c s g h = some (10, c, 0, s, g, 0, h, false, false, 0, 0) := rfl
end Go.Proofs.Ythonkcldddfpnaa.AlarmF
