/- Taking and giving back a slot: one contract for each. -/
import Derived.Test.YthonkcldddfpnaaDoorSlotAwake
import Derived.Test.YthonkcldddfpnaaDoorOpen
namespace Go.Proofs.YthonkcldddfpnaaDoor.Slot3
open Go.RowKit Go.Proofs.YthonkcldddfpnaaDoor.Open Go.Proofs.YthonkcldddfpnaaDoor.PSlotWords Go.Proofs.YthonkcldddfpnaaDoorW.PrintWords Go.Proofs.YthonkcldddfpnaaDoorW.PrintLast Go.Proofs.YthonkcldddfpnaaDoorW.PrintMore Go.Proofs.YthonkcldddfpnaaDoor.Aid Go.Proofs.YthonkcldddfpnaaDoor.Quiet Go.Proofs.YthonkcldddfpnaaDoor.SlotF Go.Proofs.YthonkcldddfpnaaDoor.Slot
set_option linter.unusedVariables false
attribute [local go_sem] max2_int min2_int max_two min_two

theorem open_some (q : Bool) (x : Nat) (hx : x < 2 ^ 64) (m k : Int) (hm : mn m 16777215 = k) (h1 : stN x = 0) (h2 : (genN x : Int) < k) :
    ∃ y : Nat, y < 2 ^ 64 ∧ genN y = genN x + 1 ∧ stN y = (if q then 2 else 1) ∧ ∀ w : World, LaidSlot.Cells w →
      Calls Tryd.prog 28 #[.int .u64 (x : Int), .bool q, .int .i64 m] w fun r w' => r = .returned (.tuple #[.int .u64 (y : Int), .bool true]) ∧ Below w.heap.size w w' := by
  have hk : k ≤ 16777215 := by rw [← hm]; unfold mn; split <;> omega
  refine ⟨wordN (genN x + 1) (if q then 2 else 1), wordN_lt _ _, ?_, ?_, fun w gl => ?_⟩
  · rw [wordN_gen]; omega
  · rw [wordN_st]; cases q <;> rfl
  · cases q
    · exact open_pending x hx m k w gl hm h1 h2
    · exact open_streams x hx m k w gl hm h1 h2
theorem close_some (x : Nat) (hx : x < 2 ^ 64) (m k : Int) (hm : mn m 16777215 = k) (h1 : stN x = 1 ∨ stN x = 2) :
    ∃ y : Nat, y < 2 ^ 64 ∧ genN y = genN x ∧ stN y = (if (genN x : Int) < k then 0 else 3) ∧ ∀ w : World, LaidSlot.Cells w →
      Calls Tryd.prog 29 #[.int .u64 (x : Int), .int .i64 m] w fun r w' => r = .returned (.int .u64 (y : Int)) ∧ Below w.heap.size w w' := by
  have hg := genN_lt x
  refine ⟨wordN (genN x) (if (genN x : Int) < k then 0 else 3), wordN_lt _ _, ?_, ?_, fun w gl => ?_⟩
  · rw [wordN_gen]; omega
  · rw [wordN_st]; split <;> rfl
  · split
    · rename_i h; exact close_free x hx m k w gl hm h1 h
    · rename_i h; exact close_last x hx m k w gl hm h1 (by omega)
end Go.Proofs.YthonkcldddfpnaaDoor.Slot3
