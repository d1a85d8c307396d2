/- A new budget has all that it has room for: the contract of budget.New. -/
import Derived.Test.YtbbaonaahokidaaBudget
import Derived.Deep.CutRange
namespace Go.Proofs.Ytbbaonaahokidaa.Budget
open Go.RowKit Go.Proofs.Ytbbaonaahokidaa.PBudgetWaits Go.Proofs.YtbbaonaahokidaaW.PrintWords Go.Proofs.YtbbaonaahokidaaW.PrintLast Go.Proofs.YtbbaonaahokidaaW.PrintMore Go.Proofs.Ytbbaonaahokidaa.Aid Go.Proofs.Ytbbaonaahokidaa.Quiet Go.Proofs.Ytbbaonaahokidaa.Blk Go.Proofs.Ytbbaonaahokidaa.State
set_option linter.unusedVariables false
attribute [local go_sem] max2_int min2_int max_two min_two

set_option maxHeartbeats 4000000 in
set_option maxRecDepth 100000 in
theorem new_calls (m gn co ro wa bo g1 c1 r1 : Int) (w : World) (hg : mn (mx gn 0) 1048576 = g1) (hc : mn (mx co 0) 1048576 = c1) (hr : mn (mx ro 0) 1048576 = r1) :
    Calls Try.prog 31 #[.agg #[.int .i64 m, .int .i64 gn, .int .i64 co, .int .i64 ro, .int .i64 wa, .int .i64 bo]] w fun r w' =>
      r = .returned (.pointer (some ⟨w.heap.size + 1, 0, none⟩)) ∧ Holds .i64 111 w' (w.heap.size + 1) [m, g1, c1, r1, wa, bo, r1] ∧ Below w.heap.size w w' := by
  have HG := Aside0.mk hg
  have HC := Aside0.mk hc
  have HR := Aside0.mk hr
  clear hg hc hr
  go_enter Try.func31, Try.ntmps31
  go_upto_region 1 with fail
  go_cut [] from 3 to 14 (fun wx => Holds .i64 59 wx w.heap.size [m, g1, c1, r1, wa, bo] ∧ Below w.heap.size w wx ∧ wx.heap.size = w.heap.size + 1)
  case first =>
    go_region_with ((go_at_call 65; first | (refine (cut_calls gn g1 _ HG.out).mono ?_; rintro e w' ⟨rfl, nn, rfl⟩) | (refine (cut_calls co c1 _ HC.out).mono ?_; rintro e w' ⟨rfl, nn, rfl⟩) | (refine (cut_calls ro r1 _ HR.out).mono ?_; rintro e w' ⟨rfl, nn, rfl⟩)))
    all_goals (go_wp2_with fail; go_meet)
    all_goals case rel =>
      refine ⟨(((show Holds .i64 59 ((w.alloc (.cells (arr .i64 [m, gn, co, ro, wa, bo]) 59)).drewN _) w.heap.size [m, gn, co, ro, wa, bo] from heap_new _ _).set 1 g1).set 2 c1).set 3 r1, ?_, by simp⟩
      exact (((below_drewN ((Below.refl _ w).alloc (Nat.le_refl _) _) _).setCell (Nat.le_refl _) _).setCell (Nat.le_refl _) _).setCell (Nat.le_refl _) _
  case rest =>
    obtain ⟨hH, hB, hz⟩ := hcut
    have c0 := hH.cell (i := 0) (by simp)
    have c1 := hH.cell (i := 1) (by simp)
    have c2 := hH.cell (i := 2) (by simp)
    have c3 := hH.cell (i := 3) (by simp)
    have c4 := hH.cell (i := 4) (by simp)
    have c5 := hH.cell (i := 5) (by simp)
    simp only [List.getElem?_cons_zero, List.getElem?_cons_succ, Option.getD_some] at c0 c1 c2 c3 c4 c5
    go_wp2_with fail
    go_ret
    refine ⟨by simp, heap_new' _ hz, hB.alloc (by omega) _⟩
set_option maxHeartbeats 1000000 in
theorem awake_calls (w : World) : Calls Try.prog 36 #[] w fun e w' => e = .returned (.bool true) ∧ Below w.heap.size w w' := by
  go_enter Try.func36, Try.ntmps36
  go_wp2_with fail
  refine (new_calls 2 1 2 3 2 8 1 2 3 w (by kernel_rfl) (by kernel_rfl) (by kernel_rfl)).mono ?_
  rintro e w1 ⟨rfl, hH, hb⟩
  have H1 := Aside0.mk hH
  have B1 := Aside0.mk hb
  clear hH hb
  go_wp2_with fail
  refine (take_some (w.heap.size + 1) 2 3 w1 (H1.out.cell (i := 2) (by simp)) (H1.out.cell (i := 6) (by simp)) (H1.out.free 6) (by decide) (by decide) (by decide)).mono ?_
  rintro e w2 ⟨rfl, hs⟩
  have H2 := Aside0.mk (show Holds .i64 111 w2 (w.heap.size + 1) [2, 1, 2, 3, 2, 8, 1] from hs.blk (H1.out.set 6 1))
  have B2 := Aside0.mk (((OnlyAt.refl (w.heap.size + 1) w1).set 6 (.int .i64 (3 - 2))).same hs |>.below B1.out (by omega) B1.out.size)
  clear hs
  go_wp2_with fail
  refine (take_less (w.heap.size + 1) 2 1 w2 (H2.out.cell (i := 2) (by simp)) (H2.out.cell (i := 6) (by simp)) (by decide)).mono ?_
  rintro e w' ⟨rfl, n1, rfl⟩
  go_wp2_with fail
  refine (left_some (w.heap.size + 1) 1 _ ((H2.out.drewN n1).cell (i := 6) (by simp))).mono ?_
  rintro e w' ⟨rfl, n2, rfl⟩
  go_wp2_with fail
  refine (wait_some 10 (w.heap.size + 1) 3 3 2 8 8 8 _ ((H2.out.drewN _).cell (i := 4) (by simp)) ((H2.out.drewN _).cell (i := 5) (by simp)) (by kernel_rfl) (by decide) (by kernel_rfl) (by kernel_rfl)).mono ?_
  rintro e w3 ⟨rfl, hb3⟩
  have B3 := Aside0.mk ((below_drewN B2.out _).trans (hb3.mono B2.out.size))
  have H3 := Aside0.mk ((H2.out.drewN _).below hb3 H2.out.lt)
  clear hb3
  go_wp2_with fail
  refine (most_some (w.heap.size + 1) 2 2 w3 (H3.out.cell (i := 0) (by simp)) (by kernel_rfl)).mono ?_
  rintro e w' ⟨rfl, n4, rfl⟩
  go_wp2_with fail
  go_ret
  exact ⟨rfl, below_drewN B3.out _⟩
end Go.Proofs.Ytbbaonaahokidaa.Budget
