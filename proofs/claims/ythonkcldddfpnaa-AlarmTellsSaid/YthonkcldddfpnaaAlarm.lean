/- An alarm's own small trial: the walk of awake. -/
import Derived.Test.YthonkcldddfpnaaAlarmF
import Derived.Test.YthonkcldddfpnaaVals
import Derived.Test.YthonkcldddfpnaaBlk
import Derived.WalkKit
import Derived.BigQuiet
import Derived.BigRegion
import Derived.RegionTactic
import Derived.KernelRfl
namespace Go.Proofs.Ythonkcldddfpnaa.Alarm
open Go.RowKit Go.Proofs.Ythonkcldddfpnaa.PAlarmAsks Go.Proofs.YthonkcldddfpnaaW.PrintWords Go.Proofs.YthonkcldddfpnaaW.PrintLast Go.Proofs.YthonkcldddfpnaaW.PrintMore Go.Proofs.Ythonkcldddfpnaa.Aid Go.Proofs.Ythonkcldddfpnaa.Quiet Go.Proofs.Ythonkcldddfpnaa.Blk Go.Proofs.Ythonkcldddfpnaa.State Go.Proofs.Ythonkcldddfpnaa.Vals Go.Proofs.Ythonkcldddfpnaa.AlarmF
set_option linter.unusedVariables false
attribute [local go_sem] max2_int min2_int max_two min_two
attribute [local go_sem high] eqA24

theorem field27 (k c v s g ca h q u : Int) (b d : Bool) (W : World) :
    (Instr.field 27 (.agg #[.int .i64 k, .int .i64 c, .int .i64 v, .int .i64 s, .int .i64 g, .int .u32 ca, .int .i64 h, .bool b, .bool d, .int .i64 q, .int .u32 u]) 0).run Try.prog W = .ok (.int .i64 k) W := by kernel_rfl
attribute [local go_sem] field27

set_option maxHeartbeats 2000000 in
theorem awake_calls (w : World) : Calls Try.prog 7 #[] w fun e w' => e = .returned (.bool true) ∧ Below w.heap.size w w' := by
  have hu27 := Try.underlying27
  have hm : mayB 34359738368 1 2 3 2 = true := by decide
  have KA := Aside0.mk (fun w => alarm_Ask.calls 34359738368 1 2 3 2 _ _ _ _ _ _ _ _ _ _ _ _ w (ask_yes 34359738368 1 2 3 2 hm))
  have KO := Aside0.mk (fun w => alarm_Of.calls 9 1 0 2 3 0 2 false false 8 0 _ _ _ _ _ _ w (of_yes 34359738368 1 2 3 2 hm))
  have KT := Aside0.mk (fun w => alarm_Tell.calls 34359738368 1 2 3 2 _ _ _ _ _ _ _ _ _ _ _ w (tell_f 34359738368 1 2 3 2))
  clear hm
  go_enter Try.func7, Try.ntmps7
  go_wp2_with (first | (go_at_call 5; refine (KA.out _).mono ?_; rintro e w1 ⟨rfl, hb1⟩))
  have HX1 := Aside0.mk ((show Holds .i64 24 _ w.heap.size [34359738368, 1, 2, 3, 2] from heap_new _ _).below hb1 (by simp))
  have B1 := Aside0.mk (((Below.refl w.heap.size w).alloc (Nat.le_refl _) _).trans (hb1.mono (by simp)))
  clear hb1
  go_wp2_with fail
  refine (KO.out _).mono ?_
  rintro e w2 ⟨rfl, hb2⟩
  have HX2 := Aside0.mk ((show Holds .i64 24 _ w.heap.size [34359738368, 1, 2, 3, 2] from heap_old HX1.out).below hb2 (by have := HX1.out.lt; simp; omega))
  have B2 := Aside0.mk ((B1.out.alloc B1.out.size _).trans (hb2.mono (by have := B1.out.size; simp; omega)))
  have HX3 : Holds .i64 24 (w2.alloc (.cells #[.int .i64 34359738368, .int .i64 1, .int .i64 2, .int .i64 3, .int .i64 2] 24)) w.heap.size [34359738368, 1, 2, 3, 2] := heap_old HX2.out
  have c0 := HX3.cell (i := 0) (by simp)
  have c1 := HX3.cell (i := 1) (by simp)
  have c2 := HX3.cell (i := 2) (by simp)
  have c3 := HX3.cell (i := 3) (by simp)
  have c4 := HX3.cell (i := 4) (by simp)
  simp only [List.getElem?_cons_zero, List.getElem?_cons_succ, Option.getD_some] at c0 c1 c2 c3 c4
  clear hb2 HX3
  go_wp2_with (first | (go_at_call 9; refine (KT.out _).mono ?_; rintro e w3 ⟨rfl, hb3⟩))
  go_ret
  exact ⟨rfl, (B2.out.alloc B2.out.size _).trans (hb3.mono (by have := B2.out.size; simp; omega))⟩
end Go.Proofs.Ythonkcldddfpnaa.Alarm
