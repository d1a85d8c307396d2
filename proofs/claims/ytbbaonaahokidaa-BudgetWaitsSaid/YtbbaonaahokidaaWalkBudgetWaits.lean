/- How often a call may be tried again, and how long that waits: the walk of BudgetWaits. -/
import Derived.Test.YtbbaonaahokidaaBudgetNew
import Derived.Test.YtbbaonaahokidaaPureTwice
import Derived.Test.YtbbaonaahokidaaWaitsCore
namespace Go.Proofs.Ytbbaonaahokidaa.walkBudgetWaits
set_option linter.unusedVariables false
open Go.RowKit Go.Proofs.YtbbaonaahokidaaW.PrintWords Go.Proofs.YtbbaonaahokidaaW.PrintLast Go.Proofs.Ytbbaonaahokidaa.PBudgetWaits Go.Proofs.Ytbbaonaahokidaa.Aid Go.Proofs.Ytbbaonaahokidaa.Blk Go.Proofs.Ytbbaonaahokidaa.State Go.Proofs.Ytbbaonaahokidaa.Budget

theorem walk (a0_0 : Int) (a0_1 : Int) (a0_2 : Int) (a0_3 : Int) (a0_4 : Int) (a0_5 : Int) (a1 : Int) (W : World) (w0_0 : (Lit.int .i64 a0_0).wf = true) (w0_1 : (Lit.int .i64 a0_1).wf = true) (w0_2 : (Lit.int .i64 a0_2).wf = true) (w0_3 : (Lit.int .i64 a0_3).wf = true) (w0_4 : (Lit.int .i64 a0_4).wf = true) (w0_5 : (Lit.int .i64 a0_5).wf = true) (w1 : (Lit.int .i64 a1).wf = true) :
    Calls Try.prog 8 #[.agg #[.int .i64 a0_0, .int .i64 a0_1, .int .i64 a0_2, .int .i64 a0_3, .int .i64 a0_4, .int .i64 a0_5], .int .i64 a1] W fun e W' => e = .returned (.bool true) ∧ Below W.heap.size W W' := by
  have hm : 1 ≤ mx a1 1 ∧ mx a1 1 ≤ 9223372036854775807 := by
    have h := w1
    simp [Lit.wf, IntKind.min, IntKind.max, IntKind.bits, IntKind.signed] at h
    unfold mx; split <;> omega
  obtain ⟨v, hv0, ht, hf⟩ := Twice.same a0_4 a0_5 _ _ hm rfl
  by_cases hlt : v < 1
  · exact waitsCore.core1 new_calls awake_calls _ _ _ _ _ _ _ _ _ _ v _ _ _ _ W rfl hm rfl rfl rfl rfl rfl rfl ht hf hlt
  · exact waitsCore.core2 new_calls awake_calls _ _ _ _ _ _ _ _ _ _ v _ _ _ _ W rfl hm rfl rfl rfl rfl rfl rfl ht hf hlt
end Go.Proofs.Ytbbaonaahokidaa.walkBudgetWaits
