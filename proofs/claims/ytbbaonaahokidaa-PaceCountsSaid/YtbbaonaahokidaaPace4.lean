/- A pace: the greatest time; bands that there are not; none counted. -/
import Derived.Test.YtbbaonaahokidaaPaceAwake
namespace Go.Proofs.Ytbbaonaahokidaa.Pace
open Go.RowKit Go.Proofs.Ytbbaonaahokidaa.PPaceBands Go.Proofs.YtbbaonaahokidaaW.PrintWords Go.Proofs.YtbbaonaahokidaaW.PrintLast Go.Proofs.YtbbaonaahokidaaW.PrintMore Go.Proofs.Ytbbaonaahokidaa.Aid Go.Proofs.Ytbbaonaahokidaa.Quiet Go.Proofs.Ytbbaonaahokidaa.Blk Go.Proofs.Ytbbaonaahokidaa.State Go.Proofs.Ytbbaonaahokidaa.Part
set_option linter.unusedVariables false
attribute [local go_sem] max2_int min2_int max_two min_two

theorem most_at (g : Nat) (L : List Int) (hL : L.length = 44) (w : World) (h : Holds .i64 83 w g L) : Calls Try.prog 55 #[.pointer (some ⟨g, 0, none⟩)] w fun r w' => r = .returned (.int .i64 (L[43]?.getD 0)) ∧ ∃ m, w' = w.drewN m := by
  have c := h.cell (i := 43) (by omega)
  generalize (L[43]?.getD 0 : Int) = v at c ⊢
  clear h
  go_enter Try.func55, Try.ntmps55
  go_wp2_with fail
  go_ret
  first | exact ⟨rfl, _, rfl⟩ | exact ⟨rfl, 0, rfl⟩
theorem of_low (g : Nat) (w : World) : Calls Try.prog 53 #[.pointer (some ⟨g, 0, none⟩), .int .i64 (-1)] w fun r w' => r = .returned (.int .i64 0) ∧ ∃ m, w' = w.drewN m := by
  go_enter Try.func53, Try.ntmps53
  go_wp2_with fail
  go_ret
  first | exact ⟨rfl, _, rfl⟩ | exact ⟨rfl, 0, rfl⟩
theorem of_high (g : Nat) (w : World) : Calls Try.prog 53 #[.pointer (some ⟨g, 0, none⟩), .int .i64 42] w fun r w' => r = .returned (.int .i64 0) ∧ ∃ m, w' = w.drewN m := by
  go_enter Try.func53, Try.ntmps53
  go_wp2_with fail
  go_ret
  first | exact ⟨rfl, _, rfl⟩ | exact ⟨rfl, 0, rfl⟩
theorem below_none (g : Nat) (L : List Int) (hL : L.length = 44) (h : Int) (w : World) (hH : Holds .i64 83 w g L) (h0 : (L[42]?.getD 0 : Int) = 0) : Calls Try.prog 56 #[.pointer (some ⟨g, 0, none⟩), .int .i64 h] w fun r w' => r = .returned (.int .i64 0) ∧ ∃ m, w' = w.drewN m := by
  have HLEN := Aside0.mk (len_at g L hL w hH)
  rw [h0] at HLEN
  clear hH h0
  go_enter Try.func56, Try.ntmps56
  go_wp2_with fail
  refine HLEN.out.mono ?_
  rintro e w1 ⟨rfl, n1, rfl⟩
  go_wp2_with fail
  go_ret
  first | exact ⟨rfl, _, rfl⟩ | exact ⟨rfl, 0, rfl⟩
end Go.Proofs.Ytbbaonaahokidaa.Pace
