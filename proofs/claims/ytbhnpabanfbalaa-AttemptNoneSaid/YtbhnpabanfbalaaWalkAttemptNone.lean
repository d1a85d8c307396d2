/- No call has no tries, what was not begun does nothing: the walk of AttemptNone. -/
import Derived.Test.YtbhnpabanfbalaaAtt3
import Derived.Test.YtbhnpabanfbalaaAttB
namespace Go.Proofs.Ytbhnpabanfbalaa.walkAttemptNone
open Go.RowKit Go.Proofs.YtbhnpabanfbalaaW.PrintWords Go.Proofs.YtbhnpabanfbalaaW.PrintLast Go.Proofs.YtbhnpabanfbalaaW.PrintMore Go.Proofs.Ytbhnpabanfbalaa.Aid Go.Proofs.Ytbhnpabanfbalaa.Quiet Go.Proofs.Ytbhnpabanfbalaa.Blk Go.Proofs.Ytbhnpabanfbalaa.State Go.Proofs.Ytbhnpabanfbalaa.Vals Go.Proofs.Ytbhnpabanfbalaa.Att
set_option linter.unusedVariables false
set_option linter.unusedSimpArgs false
set_option maxHeartbeats 4000000 in
set_option maxRecDepth 100000 in
theorem core (f0 f1 f2 f3 f4 f5 f6 : Int) (f7 f8 : Bool) (f9 f10 try_ now en : Int) (W : World) (hc : PAttemptNone.ticks_Clamp.f now = some en) :
    Calls Try.prog 3 #[.agg #[.int .i64 f0, .int .i64 f1, .int .i64 f2, .int .i64 f3, .int .i64 f4, .int .u32 f5, .int .i64 f6, .bool f7, .bool f8, .int .i64 f9, .int .u32 f10], .int .i64 try_, .int .i64 now] W fun e W' => e = .returned (.bool true) ∧ Below W.heap.size W W' := by
  have hu24 := Try.underlying24
  have NEW := Aside0.mk (fun w => att_new f0 f1 f2 f3 f4 f5 f6 f7 f8 f9 f10 now en 2 1 w hc)
  clear hc
  go_enter Try.func3, Try.ntmps3
  go_wp2_with fail
  refine (NEW.out _).mono ?_
  rintro e w1 ⟨a, rfl, h1, h2, hb⟩
  have H1 := Aside0.mk h1
  have B1 := Aside0.mk (((Below.refl W.heap.size W).alloc (Nat.le_refl _) (.cells #[.int .i64 f0, .int .i64 f1, .int .i64 f2, .int .i64 f3, .int .i64 f4, .int .u32 f5, .int .i64 f6, .bool f7, .bool f8, .int .i64 f9, .int .u32 f10] 24)).trans (hb.mono (by simp)))
  clear h1 h2 hb
  go_wp2_with fail
  refine (bud_new 3 0 0 5 0 0 0 0 5 _ (by kernel_rfl) (by kernel_rfl) (by kernel_rfl)).mono ?_
  rintro e w2 ⟨rfl, _, hb⟩
  obtain ⟨bp, hbp⟩ : ∃ b, Value.pointer (some ⟨w1.heap.size + 1, 0, none⟩) = b := ⟨_, rfl⟩
  have H2 := Aside0.mk (H1.out.below' hb)
  have B2 := Aside0.mk (B1.out.trans (hb.mono B1.out.size))
  clear hb H1 B1
  go_wp2_with fail
  refine (awake_calls _).mono ?_
  rintro e w3 ⟨rfl, hb⟩
  have H3 := Aside0.mk (H2.out.below' hb)
  have B3 := Aside0.mk (B2.out.trans (hb.mono B2.out.size))
  clear hb H2 B2
  go_wp2_with fail
  refine (begin_nil 0 now (.bool false) _).mono ?_
  rintro e w4 ⟨rfl, hb⟩
  have H4 := Aside0.mk (H3.out.below' hb)
  have B4 := Aside0.mk (B3.out.trans (hb.mono B3.out.size))
  clear hb H3 B3
  go_wp2_with fail
  refine (failed_nil try_ now _ _).mono ?_
  rintro e w5 ⟨rfl, hb⟩
  have H5 := Aside0.mk (H4.out.below' hb)
  have B5 := Aside0.mk (B4.out.trans (hb.mono B4.out.size))
  clear hb H4 B4
  go_wp2_with fail
  refine (due_nil try_ now (.bool false) _).mono ?_
  rintro e w6 ⟨rfl, hb⟩
  have H6 := Aside0.mk (H5.out.below' hb)
  have B6 := Aside0.mk (B5.out.trans (hb.mono B5.out.size))
  clear hb H5 B5
  go_wp2_with fail
  refine (sent_nil 0 0 (.bool false) _).mono ?_
  rintro e w7 ⟨rfl, hb⟩
  have H7 := Aside0.mk (H6.out.below' hb)
  have B7 := Aside0.mk (B6.out.trans (hb.mono B6.out.size))
  clear hb H6 B6
  go_wp2_with fail
  refine (retries_nil 0 0 (.bool false) _).mono ?_
  rintro e w8 ⟨rfl, hb⟩
  have H8 := Aside0.mk (H7.out.below' hb)
  have B8 := Aside0.mk (B7.out.trans (hb.mono B7.out.size))
  clear hb H7 B7
  go_wp2_with fail
  refine (hedges_nil 0 0 (.bool false) _).mono ?_
  rintro e w9 ⟨rfl, hb⟩
  have H9 := Aside0.mk (H8.out.below' hb)
  have B9 := Aside0.mk (B8.out.trans (hb.mono B8.out.size))
  clear hb H8 B8
  go_wp2_with fail
  refine (out_nil _).mono ?_
  rintro e w10 ⟨rfl, hb⟩
  have H10 := Aside0.mk (H9.out.below' hb)
  have B10 := Aside0.mk (B9.out.trans (hb.mono B9.out.size))
  clear hb H9 B9
  go_wp2_with fail
  refine (failed_new try_ now 0 _ H10.out).mono ?_
  rintro e w11 ⟨rfl, hb⟩
  have H11 := Aside0.mk (H10.out.below' hb)
  have B11 := Aside0.mk (B10.out.trans (hb.mono B10.out.size))
  clear hb H10 B10
  go_wp2_with fail
  refine (due_new 3 now H11.out).mono ?_
  rintro e w12 ⟨rfl, hb⟩
  have H12 := Aside0.mk (H11.out.below' hb)
  have B12 := Aside0.mk (B11.out.trans (hb.mono B11.out.size))
  clear hb H11 B11
  go_wp2_with fail
  refine (sent_at 0 0 H12.out).mono ?_
  rintro e w13 ⟨rfl, hb⟩
  have H13 := Aside0.mk (H12.out.below' hb)
  have B13 := Aside0.mk (B12.out.trans (hb.mono B12.out.size))
  clear hb H12 B12
  go_wp2_with fail
  go_ret
  exact ⟨rfl, B13.out⟩
theorem walk (a0_0 : Int) (a0_1 : Int) (a0_2 : Int) (a0_3 : Int) (a0_4 : Int) (a0_5 : Int) (a0_6 : Int) (a0_7 : Bool) (a0_8 : Bool) (a0_9 : Int) (a0_10 : Int) (a1 : Int) (a2 : Int) (W : World) (w0_0 : (Lit.int .i64 a0_0).wf = true) (w0_1 : (Lit.int .i64 a0_1).wf = true) (w0_2 : (Lit.int .i64 a0_2).wf = true) (w0_3 : (Lit.int .i64 a0_3).wf = true) (w0_4 : (Lit.int .i64 a0_4).wf = true) (w0_5 : (Lit.int .u32 a0_5).wf = true) (w0_6 : (Lit.int .i64 a0_6).wf = true) (w0_9 : (Lit.int .i64 a0_9).wf = true) (w0_10 : (Lit.int .u32 a0_10).wf = true) (w1 : (Lit.int .i64 a1).wf = true) (w2 : (Lit.int .i64 a2).wf = true) :
    Calls Try.prog 3 #[.agg #[.int .i64 a0_0, .int .i64 a0_1, .int .i64 a0_2, .int .i64 a0_3, .int .i64 a0_4, .int .u32 a0_5, .int .i64 a0_6, .bool a0_7, .bool a0_8, .int .i64 a0_9, .int .u32 a0_10], .int .i64 a1, .int .i64 a2] W fun e W' => e = .returned (.bool true) ∧ Below W.heap.size W W' :=
  core a0_0 a0_1 a0_2 a0_3 a0_4 a0_5 a0_6 a0_7 a0_8 a0_9 a0_10 a1 a2 _ W rfl
end Go.Proofs.Ytbhnpabanfbalaa.walkAttemptNone
