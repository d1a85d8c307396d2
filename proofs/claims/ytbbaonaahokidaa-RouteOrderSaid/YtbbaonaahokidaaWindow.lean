/- A window of counts: contracts of its making and of its buckets. -/
import Derived.Test.YtbbaonaahokidaaPPaceBandsx1
import Derived.Test.YtbbaonaahokidaaAid
import Derived.Test.YtbbaonaahokidaaBlk
import Derived.Test.YtbbaonaahokidaaVals
import Derived.WalkKit
import Derived.BigQuiet
import Derived.BigRegion
import Derived.RegionTactic
import Derived.KernelRfl
import Derived.Deep.RegionWith
import Derived.Deep.CutRange
import Derived.Deep.LoopGhost
namespace Go.Proofs.Ytbbaonaahokidaa.Window
open Go.RowKit Go.Proofs.Ytbbaonaahokidaa.PPaceBands Go.Proofs.YtbbaonaahokidaaW.PrintWords Go.Proofs.YtbbaonaahokidaaW.PrintLast Go.Proofs.YtbbaonaahokidaaW.PrintMore Go.Proofs.Ytbbaonaahokidaa.Aid Go.Proofs.Ytbbaonaahokidaa.Quiet Go.Proofs.Ytbbaonaahokidaa.Blk Go.Proofs.Ytbbaonaahokidaa.State Go.Proofs.Ytbbaonaahokidaa.Vals
set_option linter.unusedVariables false
attribute [local go_sem] max2_int min2_int max_two min_two

theorem info52 : (Try.prog.info? 52).map (fun i => (i.zero, i.size, i.bytes)) = some (some (.agg #[.int .i64 0, .int .i64 0]), 2, 16) := by kernel_rfl
theorem made2 (m : Nat) : madeCells #[.int .i64 0, .int .i64 0] m = arr .i64 (List.replicate m 0) := by
  apply Array.ext
  · simp [size_madeCells, arr_size]
  · intro i h1 h2
    have h : i % 2 = 0 ∨ i % 2 = 1 := by omega
    rcases h with h | h <;> simp [madeCells, arr, h]
theorem make2 (B : Nat) (hB : B ≤ 16) (w : World) : (Instr.makeSlice 105 (.int .i64 (B : Int)) (.int .i64 (B : Int))).run Try.prog w = .ok (.slice (some ⟨w.heap.size, 0, none⟩) B B) (w.alloc (.cells (arr .i64 (List.replicate (B * 2) 0)) 52)) := by
  obtain ⟨i0, hi, hz⟩ := Option.map_eq_some_iff.1 info52
  simp only [Prod.mk.injEq] at hz
  have hr := run_make (P := Try.prog) w 105 52 i0 _ Try.underlying105 hi hz.1 .i64 .i64 B B (by omega) (Int.le_refl _) (by rw [hz.2.2]; omega) (by omega)
  simp only [Int.toNat_natCast, hz.2.1] at hr
  rw [show (Value.agg #[.int .i64 0, .int .i64 0]).cells = #[.int .i64 0, .int .i64 0] by simp [Value.cells], made2] at hr
  exact hr
/-- The state's own three cells. -/
def winv (wd : Int) (gl B : Nat) (tu : Int) : List Value := [.int .i64 wd, .slice (some ⟨gl, 0, none⟩) B B, .int .i64 tu]
set_option maxHeartbeats 1000000 in
theorem new_calls (b t : Int) (B : Nat) (cl wd : Int) (w : World) (hB : mn (mx b 1) 16 = (B : Int)) (hc : ticks_Clamp.f t = some cl) (hwd : mx cl 1 = wd) :
    Calls Try.prog 22 #[.int .i64 b, .int .i64 t] w fun r w' => ∃ g gl, r = .returned (.pointer (some ⟨g, 0, none⟩)) ∧ HoldsV 107 w' g (winv wd gl B 0) ∧ Holds .i64 52 w' gl (List.replicate (B * 2) 0) ∧ g ≠ gl ∧ (w.heap.size ≤ g ∧ w.heap.size ≤ gl) ∧ Below w.heap.size w w' := by
  have hB1 : B ≤ 16 := by have : mn (mx b 1) 16 ≤ 16 := by { unfold mn; split <;> omega }
                          omega
  obtain ⟨b', hb'⟩ : ∃ b', (if b < 1 then 1 else b) = b' := ⟨_, rfl⟩
  have hb2 : (if 16 < b' then 16 else b') = (B : Int) := by rw [← hB, ← hb']; rfl
  have hw2 : (if cl < 1 then 1 else cl) = wd := hwd
  have M := make2 B hB1
  have HC := Aside0.mk (fun w => ticks_Clamp.calls t cl w hc)
  clear hB hc hwd hB1
  go_enter Try.func22, Try.ntmps22
  go_upto_region 1 with fail
  go_cut [4] from 5 to 13 (fun v wx => ∃ g gl, v = .pointer (some ⟨g, 0, none⟩) ∧ HoldsV 107 wx g (winv wd gl B 0) ∧ Holds .i64 52 wx gl (List.replicate (B * 2) 0) ∧ g ≠ gl ∧ (w.heap.size ≤ g ∧ w.heap.size ≤ gl) ∧ Below w.heap.size w wx)
  case first =>
    go_region_with (first | (go_at_call 62; refine (HC.out _).mono ?_; rintro e w1 ⟨rfl, hb1⟩))
    all_goals go_wp2_with fail
    all_goals go_meet
    all_goals have hs := hb1.size
    all_goals first
      | exact ⟨w1.heap.size + 1, w1.heap.size, rfl, heap_new' _ (by simp), heap_old (heap_new _ _), by omega, (by have hs' : w.heap.size ≤ w1.heap.size := hs; omega), (((Below.refl w.heap.size w).drew.trans hb1).alloc hs _).alloc (by have hs' : w.heap.size ≤ w1.heap.size := hs; simp; omega) _⟩
      | exact ⟨w1.heap.size, w.heap.size, rfl, heap_new _ _, heap_old ((show Holds .i64 52 (w.drew.alloc (.cells (arr .i64 (List.replicate (B * 2) 0)) 52)) w.heap.size (List.replicate (B * 2) 0) from heap_new _ _).below hb1 (by simp)), (by simp at hs; omega), (by simp at hs; omega), (((Below.refl w.heap.size w).drew.alloc (Nat.le_refl _) _).trans (hb1.mono (by simp))).alloc (by simp at hs; omega) _⟩
  case rest =>
    obtain ⟨g, gl, rfl, h⟩ := hcut
    go_wp2_with fail
    go_ret
    exact ⟨g, gl, rfl, h⟩
end Go.Proofs.Ytbbaonaahokidaa.Window
