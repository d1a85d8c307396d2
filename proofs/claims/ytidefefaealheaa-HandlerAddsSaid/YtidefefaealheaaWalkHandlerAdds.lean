/- What is added one behind the other is what is there then, in whatever order: the walk of HandlerAdds. -/
import Derived.Test.YtidefefaealheaaPHandlerRunsx1
import Derived.Test.YtidefefaealheaaOpen
import Derived.Test.YtidefefaealheaaAid
import Derived.WalkKit
import Derived.LoopTactic
import Derived.Below
namespace Go.Proofs.Ytidefefaealheaa.walkHandlerAdds
open Go.RowKit Go.Proofs.Ytidefefaealheaa.Open Go.Proofs.Ytidefefaealheaa.PHandlerRuns Go.Proofs.YtidefefaealheaaW.PrintWords Go.Proofs.YtidefefaealheaaW.PrintLast Go.Proofs.YtidefefaealheaaW.PrintMore Go.Proofs.Ytidefefaealheaa.Aid
set_option linter.unusedVariables false
attribute [local go_sem] max2_int min2_int max_two min_two

def sumTo (z : Nat → Int) : Nat → Int
  | 0 => 0
  | n + 1 => sumTo z n + z n
theorem sumTo_front (z : Nat → Int) : ∀ n, sumTo z (n + 1) = z 0 + sumTo (fun j => z (j + 1)) n
  | 0 => by simp [sumTo]
  | n + 1 => by
    have := sumTo_front z n
    simp only [sumTo] at *
    omega
theorem sumTo_congr {z y : Nat → Int} : ∀ n, (∀ j, j < n → z j = y j) → sumTo z n = sumTo y n
  | 0, _ => rfl
  | n + 1, h => by simp only [sumTo]; rw [sumTo_congr n (fun j hj => h j (by omega)), h n (by omega)]
theorem sumTo_rev (z : Nat → Int) : ∀ n, sumTo (fun j => z (n - 1 - j)) n = sumTo z n
  | 0 => rfl
  | n + 1 => by
    rw [sumTo_front]
    have e : sumTo (fun j => z (n + 1 - 1 - (j + 1))) n = sumTo (fun j => z (n - 1 - j)) n := sumTo_congr n (fun j hj => by congr 1; omega)
    simp only [e, sumTo_rev z n, sumTo]
    simp only [Nat.add_sub_cancel, Nat.sub_zero]
    omega
def acc (s : Int) (z : Nat → Int) (i : Nat) : Int := (s + sumTo z i) % 4294967296
theorem acc_step (s : Int) (z : Nat → Int) (i : Nat) : (acc s z i + z i) % 4294967296 = acc s z (i + 1) := by unfold acc; simp only [sumTo]; omega
theorem adds_awake : cablewaylaw25_awake.f 10 = some true := by kernel_rfl
def zat (l : List (Pts [.int .u32])) (i : Nat) : Int := match l[i]? with | some x => x.1 | none => 0

theorem run_add (z s : Int) (w : World) : Calls Try.prog 39 #[.int .i64 1, .int .u32 z, .int .u32 s] w fun e w' => e = .returned (.tuple #[.int .u32 ((s + z) % 4294967296), .int .u32 ((s + z) % 4294967296), .bool true]) ∧ Drawn0 w w' :=
  handler_Run.calls 1 z s _ _ _ w (by simp [handler_Run.f])
theorem run_look (z s : Int) (w : World) : Calls Try.prog 39 #[.int .i64 2, .int .u32 z, .int .u32 s] w fun e w' => e = .returned (.tuple #[.int .u32 s, .int .u32 s, .bool true]) ∧ Drawn0 w w' :=
  handler_Run.calls 2 z s _ _ _ w (by simp [handler_Run.f])

set_option maxHeartbeats 2000000 in
/-- The call over m cells from a on. -/
theorem core (a : Addr) (n m c0 : Nat) (z : Nat → Int) (a1 : Int) (W : World) (hmn : mn (n : Int) 30 = (m : Int)) (hml : m ≤ n) (hnc : n ≤ c0) (hm30 : m ≤ 30) (hn : n ≤ 9223372036854775807)
    (cell : ∀ i, i < m → W.cell? (a.add i) = some (.int .u32 (z i))) (hs : acc a1 z 0 = a1) (ht : acc a1 (fun j => z (m - 1 - j)) m = acc a1 z m) :
    Calls Try.prog 9 #[.slice (some a) n c0, .int .u32 a1] W fun e W' => e = .returned (.bool true) ∧ Below W.heap.size W W' := by
  have HMIN : (if (30 : Int) < (n : Int) then 30 else (n : Int)) = (m : Int) := hmn
  clear hmn
  have HT := Aside0.mk ht
  have HS := Aside0.mk hs
  clear ht hs
  go_enter Try.func9, Try.ntmps9
  go_wp2
  go_loopw [6, 7, 8, 9] (fun s t u i wr => ∃ k : Nat, k ≤ m ∧ i = .int .i64 k ∧ s = .int .u32 (acc a1 z k) ∧ t = .int .u32 (acc a1 (fun j => z (m - 1 - j)) k) ∧ u = .int .u32 (acc a1 z k) ∧ ∃ nd, wr = W.drewN nd) (fun _ _ _ i _ => m - (intOf i).toNat)
  case atStart => exact ⟨0, Nat.zero_le _, rfl, by rw [HS.out], by rw [show acc a1 (fun j => z (m - 1 - j)) 0 = acc a1 z 0 from rfl, HS.out], by rw [HS.out], 0, rfl⟩
  case round =>
    obtain ⟨k, hk, rfl, rfl, rfl, rfl, nd, rfl⟩ := hrel
    by_cases hlt : k < m
    · have c1 := cell k hlt
      have c2 := cell (m - 1 - k) (by omega)
      go_wp2_with (first | (go_at_call 39; refine (run_add _ _ _).mono ?_; rintro e w' ⟨rfl, ⟨nd1, rfl⟩⟩))
      go_roundw
      case rel => exact ⟨k + 1, by omega, by go_num, by rw [← acc_step], by rw [← acc_step, show m - 1 - k = m - 1 - k from rfl], by rw [← acc_step], _, rfl⟩
      case measure => simp [intOf]; omega
    · have hkm : k = m := by omega
      subst hkm
      have HA := HT.out
      go_wp2_with (first | (go_at_call 39; refine (run_look _ _ _).mono ?_; rintro e w' ⟨rfl, ⟨nd1, rfl⟩⟩) | (go_at_call 38; refine (cablewaylaw25_awake.calls 10 _ _ adds_awake).mono ?_; rintro e w' ⟨rfl, ⟨nd2, rfl⟩⟩))
      go_ret
      exact ⟨rfl, ⟨rfl, rfl, rfl, Nat.le_refl _, fun _ _ => rfl⟩⟩

set_option maxHeartbeats 2000000 in
/-- The call over nothing. -/
theorem core0 (a1 : Int) (W : World) : Calls Try.prog 9 #[.slice none 0 0, .int .u32 a1] W fun e W' => e = .returned (.bool true) ∧ Below W.heap.size W W' := by
  go_enter Try.func9, Try.ntmps9
  go_wp2
  go_loopw [6, 7, 8, 9] (fun s t u i wr => i = .int .i64 0 ∧ s = .int .u32 a1 ∧ t = .int .u32 a1 ∧ u = .int .u32 a1 ∧ wr = W) (fun _ _ _ i _ => 0)
  case atStart => exact ⟨rfl, rfl, rfl, rfl, rfl⟩
  case round =>
    obtain ⟨rfl, rfl, rfl, rfl, rfl⟩ := hrel
    go_wp2_with (first | (go_at_call 39; refine (run_look _ _ _).mono ?_; rintro e w' ⟨rfl, ⟨nd1, rfl⟩⟩) | (go_at_call 38; refine (cablewaylaw25_awake.calls 10 _ _ adds_awake).mono ?_; rintro e w' ⟨rfl, ⟨nd2, rfl⟩⟩))
    go_ret
    exact ⟨rfl, ⟨rfl, rfl, rfl, Nat.le_refl _, fun _ _ => rfl⟩⟩

theorem wf_u32 {a : Int} (h : (Lit.int .u32 a).wf = true) : 0 ≤ a ∧ a < 4294967296 := by
  simp [Lit.wf, IntKind.min, IntKind.max, IntKind.signed, IntKind.bits] at h; omega

theorem walk (A0 : Option Addr) (c0 : Nat) (l0 : List (Pts [.int .u32])) (a1 : Int) (W : World) (ro0 : RowsOf W [.int .u32] A0 l0) (w0 : ∀ x ∈ l0, wfs [.int .u32] x) (lc0 : l0.length ≤ c0) (cm0 : c0 ≤ maxLen) (nn0 : A0 = none → c0 = 0) (w1 : (Lit.int .u32 a1).wf = true) :
    Calls Try.prog 9 #[.slice A0 l0.length c0, .int .u32 a1] W fun e W' => e = .returned (.bool true) ∧ Below W.heap.size W W' := by
  have hb := wf_u32 w1
  have hl : l0.length ≤ 9223372036854775807 := by unfold maxLen at cm0; omega
  obtain ⟨m, hm⟩ : ∃ m, m = min l0.length 30 := ⟨_, rfl⟩
  have hmn : mn (l0.length : Int) 30 = (m : Int) := by unfold mn; split <;> omega
  have hacc : ∀ z : Nat → Int, acc a1 z 0 = a1 := fun z => by unfold acc sumTo; omega
  have hrev : acc a1 (fun j => zat l0 (m - 1 - j)) m = acc a1 (zat l0) m := by unfold acc; rw [sumTo_rev (zat l0)]
  cases A0 with
  | none =>
    have h0 := nn0 rfl
    obtain rfl : c0 = 0 := h0
    have hl0 : l0.length = 0 := by omega
    rw [hl0]
    exact core0 a1 W
  | some a =>
    refine core a l0.length m c0 (zat l0) a1 W hmn (by omega) lc0 (by omega) hl (fun i hi => ?_) (hacc _) hrev
    have hi' : i < l0.length := by omega
    obtain ⟨b, hb', h⟩ := ro0 i hi'
    injection hb' with hb'
    subst hb'
    have := h 0 (by decide)
    simp only [List.length_cons, List.length_nil, Nat.add_zero] at this
    rw [show i * (0 + 1) = i by omega] at this
    rw [this]
    unfold zat
    rw [List.getElem?_eq_getElem hi']
    rfl
end Go.Proofs.Ytidefefaealheaa.walkHandlerAdds
