/- How many go on: contracts of the functions of admit, over its seven numbers in memory. -/
import Derived.Test.YtidefefaealheaaPAdmitPlaysx1
import Derived.Test.YtidefefaealheaaAid
import Derived.Test.YtidefefaealheaaBlk
import Derived.Test.YtidefefaealheaaState
import Derived.WalkKit
import Derived.BigQuiet
import Derived.BigRegion
import Derived.RegionTactic
import Derived.KernelRfl
namespace Go.Proofs.Ytidefefaealheaa.Admit
open Go.RowKit Go.Proofs.Ytidefefaealheaa.PAdmitPlays Go.Proofs.YtidefefaealheaaW.PrintWords Go.Proofs.YtidefefaealheaaW.PrintLast Go.Proofs.YtidefefaealheaaW.PrintMore Go.Proofs.Ytidefefaealheaa.Aid Go.Proofs.Ytidefefaealheaa.Quiet Go.Proofs.Ytidefefaealheaa.Blk Go.Proofs.Ytidefefaealheaa.State
set_option linter.unusedVariables false
attribute [local go_sem] max2_int min2_int max_two min_two

theorem service_in (j : Nat) (hj : j < 4) (w : World) : Calls Try.prog 63 #[.int .i64 (j : Int)] w fun e w' => e = .returned (.bool true) ∧ Drawn0 w w' :=
  admit_service.calls (j : Int) true w (by unfold admit_service.f; rw [if_pos (by omega)]; congr 1; simp; omega)
theorem service_out (k : Int) (hk : k < 0 ∨ 4 ≤ k) (w : World) : Calls Try.prog 63 #[.int .i64 k] w fun e w' => e = .returned (.bool false) ∧ Drawn0 w w' :=
  admit_service.calls k false w (by
    unfold admit_service.f
    by_cases h : k ≥ 0
    · rw [if_pos h]; congr 1; simp; omega
    · rw [if_neg h])
theorem q_draw {P : Program} {f : FuncId} {args : Array Value} {v : Value} {w : World} {n : Nat} (h : Calls P f args (w.drewN n) fun e w' => e = .returned v ∧ Drawn0 (w.drewN n) w') :
    Calls P f args (w.drewN n) fun e w'' => e = .returned v ∧ ∃ m, w'' = w.drewN m := Calls.quiet_of (h.mono fun _ _ ⟨he, hd⟩ => ⟨he, hd.out⟩)

set_option maxHeartbeats 1000000 in
/-- One more goes on. -/
theorem take_yes (g j : Nat) (hj : j < 4) (a e n x : Int) (w : World) (c0 : w.cell? ⟨g, 0, none⟩ = some (.int .i64 a)) (c1 : w.cell? ⟨g, 1, none⟩ = some (.int .i64 e)) (c2 : w.cell? ⟨g, 2, none⟩ = some (.int .i64 n)) (cj : w.cell? ⟨g, 3 + j, none⟩ = some (.int .i64 x))
    (f2 : w.frozen? ⟨g, 2, none⟩ = false) (fj : w.frozen? ⟨g, 3 + j, none⟩ = false) (hn : n < a) (hx : x < e) (hb : -1000 ≤ n ∧ n ≤ 1000 ∧ 0 ≤ x ∧ x ≤ 1000) :
    Calls Try.prog 51 #[.pointer (some ⟨g, 0, none⟩), .int .i64 (j : Int)] w fun r w' => r = .returned (.bool true) ∧ SameMem ((w.setCell ⟨g, 2, none⟩ (.int .i64 (n + 1))).setCell ⟨g, 3 + j, none⟩ (.int .i64 (x + 1))) w' := by
  have d1 : decide (a ≤ n) = false := decide_eq_false (by omega)
  have d2 : decide (e ≤ x) = false := decide_eq_false (by omega)
  go_enter Try.func51, Try.ntmps51
  go_wp2_with fail
  go_quiet ((go_at_call 63; exact q_draw (service_in j hj _)))
  go_wp2_with fail
  go_region
  all_goals go_wp2
  all_goals go_ret
  all_goals exact ⟨rfl, rfl, rfl, rfl, rfl⟩

theorem take_out (g : Nat) (k : Int) (hk : k < 0 ∨ 4 ≤ k) (w : World) :
    Calls Try.prog 51 #[.pointer (some ⟨g, 0, none⟩), .int .i64 k] w fun r w' => r = .returned (.bool false) ∧ ∃ m, w' = w.drewN m := by
  go_enter Try.func51, Try.ntmps51
  go_wp2_with fail
  go_quiet ((go_at_call 63; exact q_draw (service_out k hk _)))
  go_wp2_with fail
  go_ret
  first | exact ⟨rfl, _, rfl⟩ | exact ⟨rfl, 0, rfl⟩
theorem give_out (g : Nat) (k : Int) (hk : k < 0 ∨ 4 ≤ k) (w : World) :
    Calls Try.prog 50 #[.pointer (some ⟨g, 0, none⟩), .int .i64 k] w fun r w' => r = .returned (.bool false) ∧ ∃ m, w' = w.drewN m := by
  go_enter Try.func50, Try.ntmps50
  go_wp2_with (go_at_call 63; refine (service_out k hk _).mono ?_; rintro e w' ⟨rfl, ⟨nd, rfl⟩⟩)
  go_ret
  first | exact ⟨rfl, _, rfl⟩ | exact ⟨rfl, 0, rfl⟩
theorem to_out (g : Nat) (k : Int) (hk : k < 0 ∨ 4 ≤ k) (w : World) :
    Calls Try.prog 53 #[.pointer (some ⟨g, 0, none⟩), .int .i64 k] w fun r w' => r = .returned (.int .i64 0) ∧ ∃ m, w' = w.drewN m := by
  go_enter Try.func53, Try.ntmps53
  go_wp2_with (go_at_call 63; refine (service_out k hk _).mono ?_; rintro e w' ⟨rfl, ⟨nd, rfl⟩⟩)
  go_ret
  first | exact ⟨rfl, _, rfl⟩ | exact ⟨rfl, 0, rfl⟩
theorem take_nil (k : Int) (w : World) : Calls Try.prog 51 #[.pointer none, .int .i64 k] w fun r w' => r = .returned (.bool false) ∧ ∃ m, w' = w.drewN m := by
  go_enter Try.func51, Try.ntmps51
  go_wp2_with fail
  go_quiet (fail)
  go_wp2_with fail
  go_ret
  first | exact ⟨rfl, _, rfl⟩ | exact ⟨rfl, 0, rfl⟩
theorem give_nil (k : Int) (w : World) : Calls Try.prog 50 #[.pointer none, .int .i64 k] w fun r w' => r = .returned (.bool false) ∧ ∃ m, w' = w.drewN m := by
  go_enter Try.func50, Try.ntmps50
  go_wp2_with fail
  go_ret
  first | exact ⟨rfl, _, rfl⟩ | exact ⟨rfl, 0, rfl⟩
theorem to_nil (k : Int) (w : World) : Calls Try.prog 53 #[.pointer none, .int .i64 k] w fun r w' => r = .returned (.int .i64 0) ∧ ∃ m, w' = w.drewN m := by
  go_enter Try.func53, Try.ntmps53
  go_wp2_with fail
  go_ret
  first | exact ⟨rfl, _, rfl⟩ | exact ⟨rfl, 0, rfl⟩
theorem len_nil (w : World) : Calls Try.prog 52 #[.pointer none] w fun r w' => r = .returned (.int .i64 0) ∧ ∃ m, w' = w.drewN m := by
  go_enter Try.func52, Try.ntmps52
  go_wp2_with fail
  go_ret
  first | exact ⟨rfl, _, rfl⟩ | exact ⟨rfl, 0, rfl⟩
theorem len_some (g : Nat) (n : Int) (w : World) (c2 : w.cell? ⟨g, 2, none⟩ = some (.int .i64 n)) : Calls Try.prog 52 #[.pointer (some ⟨g, 0, none⟩)] w fun r w' => r = .returned (.int .i64 n) ∧ ∃ m, w' = w.drewN m := by
  go_enter Try.func52, Try.ntmps52
  go_wp2_with fail
  go_ret
  first | exact ⟨rfl, _, rfl⟩ | exact ⟨rfl, 0, rfl⟩
theorem to_in (g j : Nat) (hj : j < 4) (x : Int) (w : World) (cj : w.cell? ⟨g, 3 + j, none⟩ = some (.int .i64 x)) :
    Calls Try.prog 53 #[.pointer (some ⟨g, 0, none⟩), .int .i64 (j : Int)] w fun r w' => r = .returned (.int .i64 x) ∧ ∃ m, w' = w.drewN m := by
  go_enter Try.func53, Try.ntmps53
  go_wp2_with (go_at_call 63; refine (service_in j hj _).mono ?_; rintro e w' ⟨rfl, ⟨nd, rfl⟩⟩)
  go_ret
  first | exact ⟨rfl, _, rfl⟩ | exact ⟨rfl, 0, rfl⟩
theorem take_full (g j : Nat) (hj : j < 4) (a n : Int) (w : World) (c0 : w.cell? ⟨g, 0, none⟩ = some (.int .i64 a)) (c2 : w.cell? ⟨g, 2, none⟩ = some (.int .i64 n)) (hn : a ≤ n) :
    Calls Try.prog 51 #[.pointer (some ⟨g, 0, none⟩), .int .i64 (j : Int)] w fun r w' => r = .returned (.bool false) ∧ ∃ m, w' = w.drewN m := by
  have d1 : decide (a ≤ n) = true := decide_eq_true hn
  clear hn
  go_enter Try.func51, Try.ntmps51
  go_wp2_with fail
  go_quiet ((go_at_call 63; exact q_draw (service_in j hj _)))
  go_wp2_with fail
  go_ret
  first | exact ⟨rfl, _, rfl⟩ | exact ⟨rfl, 0, rfl⟩
theorem take_each (g j : Nat) (hj : j < 4) (a e n x : Int) (w : World) (c0 : w.cell? ⟨g, 0, none⟩ = some (.int .i64 a)) (c1 : w.cell? ⟨g, 1, none⟩ = some (.int .i64 e)) (c2 : w.cell? ⟨g, 2, none⟩ = some (.int .i64 n)) (cj : w.cell? ⟨g, 3 + j, none⟩ = some (.int .i64 x)) (hn : n < a) (hx : e ≤ x) :
    Calls Try.prog 51 #[.pointer (some ⟨g, 0, none⟩), .int .i64 (j : Int)] w fun r w' => r = .returned (.bool false) ∧ ∃ m, w' = w.drewN m := by
  have d1 : decide (a ≤ n) = false := decide_eq_false (by omega)
  have d2 : decide (e ≤ x) = true := decide_eq_true hx
  clear hx
  go_enter Try.func51, Try.ntmps51
  go_wp2_with fail
  go_quiet ((go_at_call 63; exact q_draw (service_in j hj _)))
  go_wp2_with fail
  go_ret
  first | exact ⟨rfl, _, rfl⟩ | exact ⟨rfl, 0, rfl⟩
theorem give_none (g j : Nat) (hj : j < 4) (w : World) (cj : w.cell? ⟨g, 3 + j, none⟩ = some (.int .i64 0)) :
    Calls Try.prog 50 #[.pointer (some ⟨g, 0, none⟩), .int .i64 (j : Int)] w fun r w' => r = .returned (.bool false) ∧ ∃ m, w' = w.drewN m := by
  go_enter Try.func50, Try.ntmps50
  go_wp2_with (go_at_call 63; refine (service_in j hj _).mono ?_; rintro e w' ⟨rfl, ⟨nd, rfl⟩⟩)
  go_ret
  first | exact ⟨rfl, _, rfl⟩ | exact ⟨rfl, 0, rfl⟩
set_option maxHeartbeats 1000000 in
theorem give_yes (g j : Nat) (hj : j < 4) (n x : Int) (w : World) (c2 : w.cell? ⟨g, 2, none⟩ = some (.int .i64 n)) (cj : w.cell? ⟨g, 3 + j, none⟩ = some (.int .i64 x))
    (f2 : w.frozen? ⟨g, 2, none⟩ = false) (fj : w.frozen? ⟨g, 3 + j, none⟩ = false) (hx : 0 < x) (hb : -1000 ≤ n ∧ n ≤ 1000 ∧ x ≤ 1000) :
    Calls Try.prog 50 #[.pointer (some ⟨g, 0, none⟩), .int .i64 (j : Int)] w fun r w' => r = .returned (.bool true) ∧ SameMem ((w.setCell ⟨g, 2, none⟩ (.int .i64 (n - 1))).setCell ⟨g, 3 + j, none⟩ (.int .i64 (x - 1))) w' := by
  have d1 : (x == 0) = false := by rw [beq_eq_false_iff_ne]; omega
  go_enter Try.func50, Try.ntmps50
  go_wp2_with (go_at_call 63; refine (service_in j hj _).mono ?_; rintro e w' ⟨rfl, ⟨nd, rfl⟩⟩)
  go_region
  all_goals go_wp2
  all_goals go_ret
  all_goals exact ⟨rfl, rfl, rfl, rfl, rfl⟩
theorem new_calls (x y a e : Int) (w : World) (ha : mn (mx x 0) 64 = a) (he : mn (mx y 0) 64 = e) : Calls Try.prog 49 #[.int .i64 x, .int .i64 y] w fun r w' => r = .returned (.pointer (some ⟨w.heap.size, 0, none⟩)) ∧ SameMem (w.alloc (.cells (arr .i64 [a, e, 0, 0, 0, 0, 0]) 94)) w' := by
  obtain ⟨x', hx⟩ : ∃ x', (if x < 0 then 0 else x) = x' := ⟨_, rfl⟩
  obtain ⟨y', hy⟩ : ∃ y', (if y < 0 then 0 else y) = y' := ⟨_, rfl⟩
  have ha' : (if 64 < x' then 64 else x') = a := by rw [← ha, ← hx]; rfl
  have he' : (if 64 < y' then 64 else y') = e := by rw [← he, ← hy]; rfl
  clear ha he
  go_enter Try.func49, Try.ntmps49
  go_wp2_with fail
  go_ret
  exact ⟨rfl, rfl, rfl, rfl, rfl⟩
end Go.Proofs.Ytidefefaealheaa.Admit
