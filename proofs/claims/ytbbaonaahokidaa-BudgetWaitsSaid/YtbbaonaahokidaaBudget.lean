/- A budget of retries: contracts of the functions of budget, over its seven numbers in memory. -/
import Derived.Test.YtbbaonaahokidaaPBudgetWaitsx1
import Derived.Test.YtbbaonaahokidaaAid
import Derived.Test.YtbbaonaahokidaaBlk
import Derived.Test.YtbbaonaahokidaaState
import Derived.WalkKit
import Derived.BigQuiet
import Derived.BigRegion
import Derived.RegionTactic
import Derived.KernelRfl
import Derived.Deep.RegionWith
import Derived.StillTailTactics
namespace Go.Proofs.Ytbbaonaahokidaa.Budget
open Go.RowKit Go.Proofs.Ytbbaonaahokidaa.PBudgetWaits Go.Proofs.YtbbaonaahokidaaW.PrintWords Go.Proofs.YtbbaonaahokidaaW.PrintLast Go.Proofs.YtbbaonaahokidaaW.PrintMore Go.Proofs.Ytbbaonaahokidaa.Aid Go.Proofs.Ytbbaonaahokidaa.Quiet Go.Proofs.Ytbbaonaahokidaa.Blk Go.Proofs.Ytbbaonaahokidaa.State
set_option linter.unusedVariables false
attribute [local go_sem] max2_int min2_int max_two min_two

theorem cut_calls (x v : Int) (w : World) (h : mn (mx x 0) 1048576 = v) : Calls Try.prog 65 #[.int .i64 x] w fun r w' => r = .returned (.int .i64 v) ∧ ∃ m, w' = w.drewN m := by
  obtain ⟨x', hx⟩ : ∃ x', (if x < 0 then 0 else x) = x' := ⟨_, rfl⟩
  have ha' : (if 1048576 < x' then 1048576 else x') = v := by rw [← h, ← hx]; rfl
  clear h
  go_enter Try.func65, Try.ntmps65
  go_wp2_with fail
  go_ret
  first | exact ⟨rfl, _, rfl⟩ | exact ⟨rfl, 0, rfl⟩
theorem lcut_calls (x v : Int) (w : World) (h : mn (mx x 0) 1048576 = v) : Calls Try.prog 32 #[.int .i64 x] w fun r w' => r = .returned (.int .i64 v) ∧ ∃ m, w' = w.drewN m := by
  obtain ⟨x', hx⟩ : ∃ x', (if x < 0 then 0 else x) = x' := ⟨_, rfl⟩
  have ha' : (if 1048576 < x' then 1048576 else x') = v := by rw [← h, ← hx]; rfl
  clear h
  go_enter Try.func32, Try.ntmps32
  go_wp2_with fail
  go_ret
  first | exact ⟨rfl, _, rfl⟩ | exact ⟨rfl, 0, rfl⟩
set_option maxHeartbeats 1000000 in
/-- Something went well. -/
theorem well_some (g : Nat) (gain room left v : Int) (w : World) (h1 : w.cell? ⟨g, 1, none⟩ = some (.int .i64 gain)) (h3 : w.cell? ⟨g, 3, none⟩ = some (.int .i64 room)) (h6 : w.cell? ⟨g, 6, none⟩ = some (.int .i64 left)) (hf : w.frozen? ⟨g, 6, none⟩ = false)
    (hb : 0 ≤ gain ∧ gain ≤ 1048576 ∧ 0 ≤ left ∧ left ≤ 1048576) (hv : mn (left + gain) room = v) :
    Calls Try.prog 33 #[.pointer (some ⟨g, 0, none⟩)] w fun r w' => r = .returned (.tuple #[]) ∧ SameMem (w.setCell ⟨g, 6, none⟩ (.int .i64 v)) w' := by
  have hv' : (if room < left + gain then room else left + gain) = v := hv
  clear hv
  go_enter Try.func33, Try.ntmps33
  go_wp2_with fail
  go_region
  all_goals go_wp2
  all_goals go_end0
  all_goals exact ⟨rfl, rfl, rfl, rfl, rfl⟩
theorem well_nil (w : World) : Calls Try.prog 33 #[.pointer none] w fun r w' => r = .returned (.tuple #[]) ∧ ∃ m, w' = w.drewN m := by
  go_enter Try.func33, Try.ntmps33
  go_wp2_with fail
  go_end0
  first | exact ⟨rfl, _, rfl⟩ | exact ⟨rfl, 0, rfl⟩
set_option maxHeartbeats 1000000 in
theorem take_some (g : Nat) (cost left : Int) (w : World) (h2 : w.cell? ⟨g, 2, none⟩ = some (.int .i64 cost)) (h6 : w.cell? ⟨g, 6, none⟩ = some (.int .i64 left)) (hf : w.frozen? ⟨g, 6, none⟩ = false)
    (hc : 0 ≤ cost ∧ cost ≤ 1048576) (hl : 0 ≤ left ∧ left ≤ 1048576) (hlt : cost ≤ left) :
    Calls Try.prog 34 #[.pointer (some ⟨g, 0, none⟩)] w fun r w' => r = .returned (.bool true) ∧ SameMem (w.setCell ⟨g, 6, none⟩ (.int .i64 (left - cost))) w' := by
  have hd : decide (left < cost) = false := decide_eq_false (by omega)
  go_enter Try.func34, Try.ntmps34
  go_wp2_with fail
  go_quiet (fail)
  go_wp2_with fail
  go_region
  all_goals go_wp2
  all_goals go_ret
  all_goals exact ⟨rfl, rfl, rfl, rfl, rfl⟩
theorem take_less (g : Nat) (cost left : Int) (w : World) (h2 : w.cell? ⟨g, 2, none⟩ = some (.int .i64 cost)) (h6 : w.cell? ⟨g, 6, none⟩ = some (.int .i64 left)) (hlt : left < cost) :
    Calls Try.prog 34 #[.pointer (some ⟨g, 0, none⟩)] w fun r w' => r = .returned (.bool false) ∧ ∃ m, w' = w.drewN m := by
  have hd : decide (left < cost) = true := decide_eq_true hlt
  clear hlt
  go_enter Try.func34, Try.ntmps34
  go_wp2_with fail
  go_quiet (fail)
  go_wp2_with fail
  go_ret
  first | exact ⟨rfl, _, rfl⟩ | exact ⟨rfl, 0, rfl⟩
theorem take_nil (w : World) : Calls Try.prog 34 #[.pointer none] w fun r w' => r = .returned (.bool false) ∧ ∃ m, w' = w.drewN m := by
  go_enter Try.func34, Try.ntmps34
  go_wp2_with fail
  go_quiet (fail)
  go_wp2_with fail
  go_ret
  first | exact ⟨rfl, _, rfl⟩ | exact ⟨rfl, 0, rfl⟩
theorem left_some (g : Nat) (left : Int) (w : World) (h6 : w.cell? ⟨g, 6, none⟩ = some (.int .i64 left)) : Calls Try.prog 35 #[.pointer (some ⟨g, 0, none⟩)] w fun r w' => r = .returned (.int .i64 left) ∧ ∃ m, w' = w.drewN m := by
  go_enter Try.func35, Try.ntmps35
  go_wp2_with fail
  go_ret
  first | exact ⟨rfl, _, rfl⟩ | exact ⟨rfl, 0, rfl⟩
theorem left_nil (w : World) : Calls Try.prog 35 #[.pointer none] w fun r w' => r = .returned (.int .i64 0) ∧ ∃ m, w' = w.drewN m := by
  go_enter Try.func35, Try.ntmps35
  go_wp2_with fail
  go_ret
  first | exact ⟨rfl, _, rfl⟩ | exact ⟨rfl, 0, rfl⟩
theorem most_some (g : Nat) (most v : Int) (w : World) (h0 : w.cell? ⟨g, 0, none⟩ = some (.int .i64 most)) (h : mn (mx most 0) 14 = v) : Calls Try.prog 38 #[.pointer (some ⟨g, 0, none⟩)] w fun r w' => r = .returned (.int .i64 v) ∧ ∃ m, w' = w.drewN m := by
  obtain ⟨x', hx⟩ : ∃ x', (if most < 0 then 0 else most) = x' := ⟨_, rfl⟩
  have ha' : (if 14 < x' then 14 else x') = v := by rw [← h, ← hx]; rfl
  clear h
  go_enter Try.func38, Try.ntmps38
  go_wp2_with fail
  go_ret
  first | exact ⟨rfl, _, rfl⟩ | exact ⟨rfl, 0, rfl⟩
theorem most_nil (w : World) : Calls Try.prog 38 #[.pointer none] w fun r w' => r = .returned (.int .i64 0) ∧ ∃ m, w' = w.drewN m := by
  go_enter Try.func38, Try.ntmps38
  go_wp2_with fail
  go_ret
  first | exact ⟨rfl, _, rfl⟩ | exact ⟨rfl, 0, rfl⟩
theorem wait_nil (n : Int) (w : World) : Calls Try.prog 39 #[.pointer none, .int .i64 n] w fun r w' => r = .returned (.int .i64 1) ∧ ∃ m, w' = w.drewN m := by
  go_enter Try.func39, Try.ntmps39
  go_wp2_with fail
  go_ret
  first | exact ⟨rfl, _, rfl⟩ | exact ⟨rfl, 0, rfl⟩
set_option maxHeartbeats 1000000 in
theorem wait_some (k : Nat) (g : Nat) (n m wait bound t v : Int) (w : World) (h4 : w.cell? ⟨g, 4, none⟩ = some (.int .i64 wait)) (h5 : w.cell? ⟨g, 5, none⟩ = some (.int .i64 bound)) (hm : mx n 1 = m) (hw : (Lit.int .i64 m).wf = true)
    (ht : ticks_Twice.f k wait (m - 1) bound = some t) (hv : mx t 1 = v) :
    Calls Try.prog 39 #[.pointer (some ⟨g, 0, none⟩), .int .i64 n] w fun r w' => r = .returned (.int .i64 v) ∧ Below w.heap.size w w' := by
  have hm' : (if n < 1 then 1 else n) = m := hm
  have hv' : (if t < 1 then 1 else t) = v := hv
  have hm1 : 1 ≤ m := by rw [← hm]; unfold mx; split <;> omega
  have hm2 : m ≤ 9223372036854775807 := by simp [Lit.wf] at hw; omega
  have hlt : g < w.heap.size := World.block_lt_of_cell? _ _ h4
  have H4 := Aside0.mk h4
  have H5 := Aside0.mk h5
  have HT := Aside0.mk ht
  clear hm hv h4 h5 ht hw
  go_enter Try.func39, Try.ntmps39
  go_wp2_with fail
  refine wp_region_below (by kernel_rfl) (by kernel_rfl) ?_
  repeat (go_big_quiet_step ((intro hw; first
    | (with_reducible rfl)
    | (go_at_call 67; exact q_below hw (ticks_Twice.calls _ _ _ _ _ _ HT.out))
    | (have e4 := (hw.cell (p := ⟨g, 4, none⟩) hlt).trans H4.out; have e5 := (hw.cell (p := ⟨g, 5, none⟩) hlt).trans H5.out
       simp only [e4, e5, Result.andThen_ok]; go_simp; first | rfl | exact ⟨rfl, rfl⟩))))
  refine wpQuiet_nil ?_
  intro W2 hb2
  go_wp2_with fail
  go_ret
  exact ⟨rfl, hb2⟩
end Go.Proofs.Ytbbaonaahokidaa.Budget
