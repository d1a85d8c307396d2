/- A call's tries: contracts of a new one, and of none. -/
import Derived.Test.YtbhnpabanfbalaaPAttemptNonex1
import Derived.Test.YtbhnpabanfbalaaAid
import Derived.Test.YtbhnpabanfbalaaBlk
import Derived.Test.YtbhnpabanfbalaaVals
import Derived.Test.YtbhnpabanfbalaaRegInv
import Derived.WalkKit
import Derived.BigQuiet
import Derived.BigRegion
import Derived.RegionTactic
import Derived.KernelRfl
import Derived.Deep.RegionWith
import Derived.Deep.CutRange
import Derived.Deep.WholeRow
namespace Go.Proofs.Ytbhnpabanfbalaa.Att
open Go.RowKit Go.Proofs.YtbhnpabanfbalaaW.PrintWords Go.Proofs.YtbhnpabanfbalaaW.PrintLast Go.Proofs.YtbhnpabanfbalaaW.PrintMore Go.Proofs.Ytbhnpabanfbalaa.Aid Go.Proofs.Ytbhnpabanfbalaa.Quiet Go.Proofs.Ytbhnpabanfbalaa.Blk Go.Proofs.Ytbhnpabanfbalaa.State Go.Proofs.Ytbhnpabanfbalaa.Vals
set_option linter.unusedVariables false
set_option linter.unusedSimpArgs false
attribute [local go_sem] max2_int min2_int max_two min_two

theorem begin_nil (try_ now : Int) (b : Value) (w : World) : Calls Try.prog 9 #[.pointer none, .int .i64 now] w fun r w' => r = .returned (.slice none 0 0) ∧ Below w.heap.size w w' := by
  go_enter Try.func9, Try.ntmps9
  go_wp2_with fail
  go_ret
  exact ⟨rfl, by first | exact below_drewN (Below.refl _ _) _ | exact Below.refl _ _⟩
theorem failed_nil (try_ now : Int) (b : Value) (w : World) : Calls Try.prog 10 #[.pointer none, .int .i64 try_, .int .i64 now, b] w fun r w' => r = .returned (.slice none 0 0) ∧ Below w.heap.size w w' := by
  go_enter Try.func10, Try.ntmps10
  go_wp2_with fail
  go_ret
  exact ⟨rfl, by first | exact below_drewN (Below.refl _ _) _ | exact Below.refl _ _⟩
theorem due_nil (try_ now : Int) (b : Value) (w : World) : Calls Try.prog 11 #[.pointer none, .int .i64 try_, .int .i64 now] w fun r w' => r = .returned (.slice none 0 0) ∧ Below w.heap.size w w' := by
  go_enter Try.func11, Try.ntmps11
  go_wp2_with fail
  go_ret
  exact ⟨rfl, by first | exact below_drewN (Below.refl _ _) _ | exact Below.refl _ _⟩
theorem sent_nil (try_ now : Int) (b : Value) (w : World) : Calls Try.prog 12 #[.pointer none] w fun r w' => r = .returned (.int .i64 0) ∧ Below w.heap.size w w' := by
  go_enter Try.func12, Try.ntmps12
  go_wp2_with fail
  go_ret
  exact ⟨rfl, by first | exact below_drewN (Below.refl _ _) _ | exact Below.refl _ _⟩
theorem retries_nil (try_ now : Int) (b : Value) (w : World) : Calls Try.prog 13 #[.pointer none] w fun r w' => r = .returned (.int .i64 0) ∧ Below w.heap.size w w' := by
  go_enter Try.func13, Try.ntmps13
  go_wp2_with fail
  go_ret
  exact ⟨rfl, by first | exact below_drewN (Below.refl _ _) _ | exact Below.refl _ _⟩
theorem hedges_nil (try_ now : Int) (b : Value) (w : World) : Calls Try.prog 14 #[.pointer none] w fun r w' => r = .returned (.int .i64 0) ∧ Below w.heap.size w w' := by
  go_enter Try.func14, Try.ntmps14
  go_wp2_with fail
  go_ret
  exact ⟨rfl, by first | exact below_drewN (Below.refl _ _) _ | exact Below.refl _ _⟩
theorem out_nil (w : World) : Calls Try.prog 15 #[.pointer none] w fun r w' => r = .returned (.int .i64 0) ∧ Below w.heap.size w w' := by
  go_enter Try.func15, Try.ntmps15
  go_wp2_with fail
  go_loopg [3, 4] 0 (fun gg v3 v4 wx => v3 = .int .i64 0 ∧ v4 = .int .i64 0 ∧ Below w.heap.size w wx)
  case atStart => exact ⟨rfl, rfl, by first | exact Below.refl _ _ | exact below_drewN (Below.refl _ _) _⟩
  case round =>
    obtain ⟨rfl, rfl, hB⟩ := hrel
    have HB := Aside0.mk hB
    clear hB
    go_wp2_with fail
    go_ret
    exact ⟨rfl, by first | exact HB.out | exact below_drewN HB.out _⟩
/-- An attempt's own cells. -/
def atV (f0 f1 f2 f3 f4 f5 f6 : Int) (f7 f8 : Bool) (f9 f10 : Int) (en h0 h1 se ou re he la : Int) (wa : Bool) : List Value := [.int .i64 f0, .int .i64 f1, .int .i64 f2, .int .i64 f3, .int .i64 f4, .int .u32 f5, .int .i64 f6, .bool f7, .bool f8, .int .i64 f9, .int .u32 f10, .int .i64 en, .int .i64 h0, .int .i64 h1, .int .i64 se, .int .i64 ou, .int .i64 re, .int .i64 he, .int .i64 la, .bool wa]
section
variable {w : World} {a : Nat} {f0 f1 f2 f3 f4 f5 f6 : Int} {f7 f8 : Bool} {f9 f10 en h0 h1 re he la : Int} {wa : Bool}
theorem failed_new (try_ now se : Int) (b : Value) (h : HoldsV 59 w a (atV f0 f1 f2 f3 f4 f5 f6 f7 f8 f9 f10 en h0 h1 se 0 re he la wa)) : Calls Try.prog 10 #[.pointer (some ⟨a, 0, none⟩), .int .i64 try_, .int .i64 now, b] w fun r w' => r = .returned (.slice none 0 0) ∧ Below w.heap.size w w' := by
  have c15 := h.cell 15
  simp only [atV, List.getElem?_cons_zero, List.getElem?_cons_succ] at c15
  clear h
  by_cases h1 : try_ < 0
  · have d1 : decide (try_ < 0) = true := decide_eq_true h1
    go_enter Try.func10, Try.ntmps10
    go_wp2_with fail
    go_ret
    exact ⟨rfl, by first | exact below_drewN (Below.refl _ _) _ | exact Below.refl _ _⟩
  · have d1 : decide (try_ < 0) = false := decide_eq_false h1
    by_cases h2 : 15 < try_
    · have d2 : decide (15 < try_) = true := decide_eq_true h2
      go_enter Try.func10, Try.ntmps10
      go_wp2_with fail
      go_ret
      exact ⟨rfl, by first | exact below_drewN (Below.refl _ _) _ | exact Below.refl _ _⟩
    · have d2 : decide (15 < try_) = false := decide_eq_false h2
      have h3 : 0 ≤ try_ := by omega
      go_enter Try.func10, Try.ntmps10
      go_wp2_with fail
      go_ret
      exact ⟨rfl, by first | exact below_drewN (Below.refl _ _) _ | exact Below.refl _ _⟩
theorem due_new (what now : Int) (h : HoldsV 59 w a (atV f0 f1 f2 f3 f4 f5 f6 f7 f8 f9 f10 en h0 h1 0 0 re he la wa)) : Calls Try.prog 11 #[.pointer (some ⟨a, 0, none⟩), .int .i64 what, .int .i64 now] w fun r w' => r = .returned (.slice none 0 0) ∧ Below w.heap.size w w' := by
  have c14 := h.cell 14
  simp only [atV, List.getElem?_cons_zero, List.getElem?_cons_succ] at c14
  clear h
  go_enter Try.func11, Try.ntmps11
  go_wp2_with fail
  go_ret
  exact ⟨rfl, by first | exact below_drewN (Below.refl _ _) _ | exact Below.refl _ _⟩
theorem sent_at (se ou : Int) (h : HoldsV 59 w a (atV f0 f1 f2 f3 f4 f5 f6 f7 f8 f9 f10 en h0 h1 se ou re he la wa)) : Calls Try.prog 12 #[.pointer (some ⟨a, 0, none⟩)] w fun r w' => r = .returned (.int .i64 se) ∧ Below w.heap.size w w' := by
  have c14 := h.cell 14
  simp only [atV, List.getElem?_cons_zero, List.getElem?_cons_succ] at c14
  clear h
  go_enter Try.func12, Try.ntmps12
  go_wp2_with fail
  go_ret
  exact ⟨rfl, by first | exact below_drewN (Below.refl _ _) _ | exact Below.refl _ _⟩
end
end Go.Proofs.Ytbhnpabanfbalaa.Att
