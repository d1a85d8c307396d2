/- What each method comes to, and the state behind it: true for every method, argument and state. -/
import Derived.Test.YtidefefaealheaaPHandlerRunsx1
import Derived.Test.YtidefefaealheaaAid
import Derived.KernelRfl
namespace Go.Proofs.Ytidefefaealheaa.Pure
open Go.RowKit Go.Proofs.Ytidefefaealheaa.PHandlerRuns Go.Proofs.YtidefefaealheaaW.PrintWords Go.Proofs.YtidefefaealheaaW.PrintLast Go.Proofs.Ytidefefaealheaa.Aid

theorem runs_awake : cablewaylaw25_awake.f 10 = some true := by kernel_rfl

theorem runs_j0 (a1 a2 m : Int) : cablewaylaw25_HandlerRuns.j0 12 a1 a2 m = some true := by
  have e1 : (a1 + a2) % 4294967296 = (a2 + a1) % 4294967296 := by rw [Int.add_comm]
  have e2 : (a1 + a1) % 4294967296 = (2 * a1) % 4294967296 := by congr 1; omega
  by_cases h0 : m = 0
  · subst h0; simp [cablewaylaw25_HandlerRuns.j0, cablewaylaw25_HandlerRuns.j1, handler_Run.f, runs_awake, handler_Known.f, handler_Streams.f, handler_Changes.f]
  by_cases h1 : m = 1
  · subst h1; simp [cablewaylaw25_HandlerRuns.j0, cablewaylaw25_HandlerRuns.j1, handler_Run.f, runs_awake, handler_Known.f, handler_Streams.f, handler_Changes.f, e1]
  by_cases h2 : m = 2
  · subst h2; simp [cablewaylaw25_HandlerRuns.j0, cablewaylaw25_HandlerRuns.j1, handler_Run.f, runs_awake, handler_Known.f, handler_Streams.f, handler_Changes.f]
  by_cases h3 : m = 3
  · subst h3; simp [cablewaylaw25_HandlerRuns.j0, cablewaylaw25_HandlerRuns.j1, handler_Run.f, runs_awake, handler_Known.f, handler_Streams.f, handler_Changes.f, e2]
  by_cases h4 : m = 4
  · subst h4; simp [cablewaylaw25_HandlerRuns.j0, cablewaylaw25_HandlerRuns.j1, handler_Run.f, runs_awake, handler_Known.f, handler_Streams.f, handler_Changes.f]
  by_cases h5 : m = 5
  · subst h5; simp [cablewaylaw25_HandlerRuns.j0, cablewaylaw25_HandlerRuns.j1, handler_Run.f, runs_awake, handler_Known.f, handler_Streams.f, handler_Changes.f]
  have hd : decide (m < 6) = decide (m ≤ 5) := by rw [Bool.eq_iff_iff]; simp; omega
  by_cases hm : m ≥ 0
  · simp [cablewaylaw25_HandlerRuns.j0, cablewaylaw25_HandlerRuns.j1, handler_Run.f, runs_awake, handler_Known.f, handler_Streams.f, handler_Changes.f, h0, h1, h2, h3, h4, h5, hm, hd]
  · simp [cablewaylaw25_HandlerRuns.j0, cablewaylaw25_HandlerRuns.j1, handler_Run.f, runs_awake, handler_Known.f, handler_Streams.f, handler_Changes.f, h0, h1, h2, h3, h4, h5, hm]

theorem HandlerRuns : cablewaylaw25_HandlerRuns.Pure := by
  intro a0 a1 a2 _ _ _
  refine ⟨12, ?_⟩
  unfold cablewaylaw25_HandlerRuns.f
  split <;> exact runs_j0 _ _ _
end Go.Proofs.Ytidefefaealheaa.Pure
