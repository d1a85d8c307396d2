/- A call's tries: contracts of a new one, and of none. -/
import Derived.Test.YtbhnpabanfbalaaPAttemptNonex1
import Derived.Test.YtbhnpabanfbalaaAid
import Derived.Test.YtbhnpabanfbalaaBlk
import Derived.Test.YtbhnpabanfbalaaVals
import Derived.Test.YtbhnpabanfbalaaRegInv
import Derived.WalkKit
import Derived.BigQuiet
import Derived.BigRegion
import Derived.RegionTactic
import Derived.KernelRfl
import Derived.Deep.RegionWith
import Derived.Deep.CutRange
import Derived.Deep.WholeRow
namespace Go.Proofs.Ytbhnpabanfbalaa.Att
open Go.RowKit Go.Proofs.YtbhnpabanfbalaaW.PrintWords Go.Proofs.YtbhnpabanfbalaaW.PrintLast Go.Proofs.YtbhnpabanfbalaaW.PrintMore Go.Proofs.Ytbhnpabanfbalaa.Aid Go.Proofs.Ytbhnpabanfbalaa.Quiet Go.Proofs.Ytbhnpabanfbalaa.Blk Go.Proofs.Ytbhnpabanfbalaa.State Go.Proofs.Ytbhnpabanfbalaa.Vals
set_option linter.unusedVariables false
set_option linter.unusedSimpArgs false
attribute [local go_sem] max2_int min2_int max_two min_two

theorem cut_calls (a r : Int) (w : World) (h : mn (mx a 0) 1048576 = r) : Calls Try.prog 21 #[.int .i64 a] w fun e w' => e = .returned (.int .i64 r) ∧ ∃ n, w' = w.drewN n := by
  obtain ⟨a', ha⟩ : ∃ a', (if a < 0 then 0 else a) = a' := ⟨_, rfl⟩
  have ha' : (if 1048576 < a' then 1048576 else a') = r := by rw [← h, ← ha]; rfl
  clear h
  go_enter Try.func21, Try.ntmps21
  go_wp2_with fail
  go_ret
  first | exact ⟨rfl, _, rfl⟩ | exact ⟨rfl, 0, rfl⟩
set_option maxHeartbeats 4000000 in
set_option maxRecDepth 100000 in
theorem bud_new (m gn co ro wa bo g1 c1 r1 : Int) (w : World) (hg : mn (mx gn 0) 1048576 = g1) (hc : mn (mx co 0) 1048576 = c1) (hr : mn (mx ro 0) 1048576 = r1) :
    Calls Try.prog 7 #[.agg #[.int .i64 m, .int .i64 gn, .int .i64 co, .int .i64 ro, .int .i64 wa, .int .i64 bo]] w fun r w' =>
      r = .returned (.pointer (some ⟨w.heap.size + 1, 0, none⟩)) ∧ Holds .i64 61 w' (w.heap.size + 1) [m, g1, c1, r1, wa, bo, r1] ∧ Below w.heap.size w w' := by
  have HG := Aside0.mk hg
  have HC := Aside0.mk hc
  have HR := Aside0.mk hr
  clear hg hc hr
  go_enter Try.func7, Try.ntmps7
  go_upto_region 1 with fail
  go_cut [] from 3 to 14 (fun wx => Holds .i64 33 wx w.heap.size [m, g1, c1, r1, wa, bo] ∧ Below w.heap.size w wx ∧ wx.heap.size = w.heap.size + 1)
  case first =>
    go_region_with ((go_at_call 21; first | (refine (cut_calls gn g1 _ HG.out).mono ?_; rintro e w' ⟨rfl, nn, rfl⟩) | (refine (cut_calls co c1 _ HC.out).mono ?_; rintro e w' ⟨rfl, nn, rfl⟩) | (refine (cut_calls ro r1 _ HR.out).mono ?_; rintro e w' ⟨rfl, nn, rfl⟩)))
    all_goals (go_wp2_with fail; go_meet)
    all_goals case rel =>
      refine ⟨(((show Holds .i64 33 ((w.alloc (.cells (arr .i64 [m, gn, co, ro, wa, bo]) 33)).drewN _) w.heap.size [m, gn, co, ro, wa, bo] from heap_new _ _).set 1 g1).set 2 c1).set 3 r1, ?_, by simp⟩
      exact (((below_drewN ((Below.refl _ w).alloc (Nat.le_refl _) _) _).setCell (Nat.le_refl _) _).setCell (Nat.le_refl _) _).setCell (Nat.le_refl _) _
  case rest =>
    obtain ⟨hH, hB, hz⟩ := hcut
    have c0 := hH.cell (i := 0) (by simp)
    have c1 := hH.cell (i := 1) (by simp)
    have c2 := hH.cell (i := 2) (by simp)
    have c3 := hH.cell (i := 3) (by simp)
    have c4 := hH.cell (i := 4) (by simp)
    have c5 := hH.cell (i := 5) (by simp)
    simp only [List.getElem?_cons_zero, List.getElem?_cons_succ, Option.getD_some] at c0 c1 c2 c3 c4 c5
    go_wp2_with fail
    go_ret
    refine ⟨by simp, heap_new' _ hz, hB.alloc (by omega) _⟩
end Go.Proofs.Ytbhnpabanfbalaa.Att
