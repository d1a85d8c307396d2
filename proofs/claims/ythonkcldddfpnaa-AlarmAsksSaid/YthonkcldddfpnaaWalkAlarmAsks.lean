/- An alarm that may be is asked for by a frame, and that frame's alarm: the walk of AlarmAsks. -/
import Derived.Test.YthonkcldddfpnaaAlarm
import Derived.Deep.CutRange
import Derived.Deep.CutBlock
namespace Go.Proofs.Ythonkcldddfpnaa.walkAlarmAsks
open Go.RowKit Go.Proofs.Ythonkcldddfpnaa.PAlarmAsks Go.Proofs.YthonkcldddfpnaaW.PrintWords Go.Proofs.YthonkcldddfpnaaW.PrintLast Go.Proofs.YthonkcldddfpnaaW.PrintMore Go.Proofs.Ythonkcldddfpnaa.Aid Go.Proofs.Ythonkcldddfpnaa.Quiet Go.Proofs.Ythonkcldddfpnaa.Blk Go.Proofs.Ythonkcldddfpnaa.State Go.Proofs.Ythonkcldddfpnaa.Vals Go.Proofs.Ythonkcldddfpnaa.AlarmF Go.Proofs.Ythonkcldddfpnaa.Alarm
set_option linter.unusedVariables false
attribute [local go_sem] max2_int min2_int max_two min_two
attribute [local go_sem high] eqA24

set_option maxHeartbeats 4000000 in
set_option maxRecDepth 100000 in
theorem core (a0 a1 a2 a3 a4 a5 : Int) (r : Nat) (W : World) (hr : Go.bits .and .i64 a5 15 = (r : Int)) :
    Calls Try.prog 3 #[.agg #[.int .i64 a0, .int .i64 a1, .int .i64 a2, .int .i64 a3, .int .i64 a4], .int .i64 a5] W fun e W' => e = .returned (.bool true) ∧ Below W.heap.size W W' := by
  have hu24 := Try.underlying24
  have hu27 := Try.underlying27
  go_enter Try.func3, Try.ntmps3
  go_upto_block 0 with fail
  go_cut [] from 35 (fun w => ∃ t c s g h : Int, Holds .i64 24 w (W.heap.size + 1) [t, c, s, g, h] ∧ Below W.heap.size W w ∧ w.heap.size = W.heap.size + 2)
  case first =>
    have hc : r = 0 ∨ r = 1 ∨ r = 2 ∨ r = 3 ∨ r = 4 ∨ (r ≠ 0 ∧ r ≠ 1 ∧ r ≠ 2 ∧ r ≠ 3 ∧ r ≠ 4) := by omega
    rcases hc with h0 | h1 | h2 | h3 | h4 | ⟨h0, h1, h2, h3, h4⟩
    · subst h0
      go_wp2_with fail
      go_meet
      exact ⟨_, _, _, _, _, (heap_new' _ (by simp) : Holds .i64 24 _ (W.heap.size + 1) [_, _, _, _, _]), ((Below.refl _ W).alloc (Nat.le_refl _) _).alloc (by simp) _, by simp⟩
    · subst h1
      go_wp2_with fail
      go_meet
      exact ⟨_, _, _, _, _, (heap_new' _ (by simp) : Holds .i64 24 _ (W.heap.size + 1) [_, _, _, _, _]), ((Below.refl _ W).alloc (Nat.le_refl _) _).alloc (by simp) _, by simp⟩
    · subst h2
      go_wp2_with fail
      go_meet
      exact ⟨_, _, _, _, _, (heap_new' _ (by simp) : Holds .i64 24 _ (W.heap.size + 1) [_, _, _, _, _]), ((Below.refl _ W).alloc (Nat.le_refl _) _).alloc (by simp) _, by simp⟩
    · subst h3
      go_wp2_with fail
      go_meet
      exact ⟨_, _, _, _, _, (heap_new' _ (by simp) : Holds .i64 24 _ (W.heap.size + 1) [_, _, _, _, _]), ((Below.refl _ W).alloc (Nat.le_refl _) _).alloc (by simp) _, by simp⟩
    · subst h4
      go_wp2_with fail
      go_meet
      exact ⟨_, _, _, _, _, (heap_new' _ (by simp) : Holds .i64 24 _ (W.heap.size + 1) [_, _, _, _, _]), ((Below.refl _ W).alloc (Nat.le_refl _) _).alloc (by simp) _, by simp⟩
    ·
      have d0 : ((r : Int) == 0) = false := by rw [beq_eq_false_iff_ne]; omega
      have d1 : ((r : Int) == 1) = false := by rw [beq_eq_false_iff_ne]; omega
      have d2 : ((r : Int) == 2) = false := by rw [beq_eq_false_iff_ne]; omega
      have d3 : ((r : Int) == 3) = false := by rw [beq_eq_false_iff_ne]; omega
      have d4 : ((r : Int) == 4) = false := by rw [beq_eq_false_iff_ne]; omega
      clear h0 h1 h2 h3 h4
      go_wp2_with fail
      go_meet
      exact ⟨_, _, _, _, _, (heap_new' _ (by simp) : Holds .i64 24 _ (W.heap.size + 1) [_, _, _, _, _]), ((Below.refl _ W).alloc (Nat.le_refl _) _).alloc (by simp) _, by simp⟩
  case rest =>
    obtain ⟨t, c, s, g, h, hX, hB, hS⟩ := hcut
    obtain ⟨x0, hx0⟩ : ∃ x0, W.heap.size + 1 = x0 := ⟨_, rfl⟩
    rw [hx0] at hX ⊢
    rename_i wc
    have HX := Aside0.mk hX
    have HB := Aside0.mk hB
    have HS := Aside0.mk (show x0 < wc.heap.size by omega)
    have c0 := HX.out.cell (i := 0) (by simp)
    have c1 := HX.out.cell (i := 1) (by simp)
    have c2 := HX.out.cell (i := 2) (by simp)
    have c3 := HX.out.cell (i := 3) (by simp)
    have c4 := HX.out.cell (i := 4) (by simp)
    simp only [List.getElem?_cons_zero, List.getElem?_cons_succ, Option.getD_some] at c0 c1 c2 c3 c4
    clear hX hB hS hx0 hr
    go_upto_region 13 with fail
    go_cut [6] from 60 (fun v w => v = .bool (mayB t c s g h) ∧ wc = w)
    case first =>
      by_cases p0 : 0 ≤ t
      · have e0 : decide (0 ≤ t) = true := decide_eq_true p0
        have H0 := Aside0.mk p0
        clear p0
        by_cases p1 : t < 1099511627776
        · have e1 : decide (t < 1099511627776) = true := decide_eq_true p1
          have H1 := Aside0.mk p1
          clear p1
          by_cases p2 : 1 ≤ h
          · have e2 : decide (1 ≤ h) = true := decide_eq_true p2
            have H2 := Aside0.mk p2
            clear p2
            by_cases p3 : h ≤ 3
            · have e3 : decide (h ≤ 3) = true := decide_eq_true p3
              have H3 := Aside0.mk p3
              clear p3
              by_cases p4 : 0 ≤ c
              · have e4 : decide (0 ≤ c) = true := decide_eq_true p4
                have H4 := Aside0.mk p4
                clear p4
                by_cases p5 : c < 4
                · have e5 : decide (c < 4) = true := decide_eq_true p5
                  have H5 := Aside0.mk p5
                  clear p5
                  by_cases p6 : 0 ≤ s
                  · have e6 : decide (0 ≤ s) = true := decide_eq_true p6
                    have H6 := Aside0.mk p6
                    clear p6
                    by_cases p7 : s < 16
                    · have e7 : decide (s < 16) = true := decide_eq_true p7
                      have H7 := Aside0.mk p7
                      clear p7
                      by_cases p8 : 1 ≤ g
                      · have e8 : decide (1 ≤ g) = true := decide_eq_true p8
                        have H8 := Aside0.mk p8
                        clear p8
                        by_cases p9 : g ≤ 16777215
                        · have e9 : decide (g ≤ 16777215) = true := decide_eq_true p9
                          have H9 := Aside0.mk p9
                          clear p9
                          have FM := Aside0.mk (show mayB t c s g h = true from decide_eq_true ⟨H0.out, H1.out, H2.out, H3.out, H4.out, H5.out, H6.out, H7.out, H8.out, H9.out⟩)
                          go_wp2_with fail
                          go_meet
                          exact ⟨congrArg Value.bool FM.out.symm, rfl⟩
                        · have e9 : decide (g ≤ 16777215) = false := decide_eq_false p9
                          have FM := Aside0.mk (show mayB t c s g h = false from decide_eq_false (fun h => p9 h.2.2.2.2.2.2.2.2.2))
                          clear p9
                          go_wp2_with fail
                          go_meet
                          exact ⟨congrArg Value.bool FM.out.symm, rfl⟩
                      · have e8 : decide (1 ≤ g) = false := decide_eq_false p8
                        have FM := Aside0.mk (show mayB t c s g h = false from decide_eq_false (fun h => p8 h.2.2.2.2.2.2.2.2.1))
                        clear p8
                        go_wp2_with fail
                        go_meet
                        exact ⟨congrArg Value.bool FM.out.symm, rfl⟩
                    · have e7 : decide (s < 16) = false := decide_eq_false p7
                      have FM := Aside0.mk (show mayB t c s g h = false from decide_eq_false (fun h => p7 h.2.2.2.2.2.2.2.1))
                      clear p7
                      go_wp2_with fail
                      go_meet
                      exact ⟨congrArg Value.bool FM.out.symm, rfl⟩
                  · have e6 : decide (0 ≤ s) = false := decide_eq_false p6
                    have FM := Aside0.mk (show mayB t c s g h = false from decide_eq_false (fun h => p6 h.2.2.2.2.2.2.1))
                    clear p6
                    go_wp2_with fail
                    go_meet
                    exact ⟨congrArg Value.bool FM.out.symm, rfl⟩
                · have e5 : decide (c < 4) = false := decide_eq_false p5
                  have FM := Aside0.mk (show mayB t c s g h = false from decide_eq_false (fun h => p5 h.2.2.2.2.2.1))
                  clear p5
                  go_wp2_with fail
                  go_meet
                  exact ⟨congrArg Value.bool FM.out.symm, rfl⟩
              · have e4 : decide (0 ≤ c) = false := decide_eq_false p4
                have FM := Aside0.mk (show mayB t c s g h = false from decide_eq_false (fun h => p4 h.2.2.2.2.1))
                clear p4
                go_wp2_with fail
                go_meet
                exact ⟨congrArg Value.bool FM.out.symm, rfl⟩
            · have e3 : decide (h ≤ 3) = false := decide_eq_false p3
              have FM := Aside0.mk (show mayB t c s g h = false from decide_eq_false (fun h => p3 h.2.2.2.1))
              clear p3
              go_wp2_with fail
              go_meet
              exact ⟨congrArg Value.bool FM.out.symm, rfl⟩
          · have e2 : decide (1 ≤ h) = false := decide_eq_false p2
            have FM := Aside0.mk (show mayB t c s g h = false from decide_eq_false (fun h => p2 h.2.2.1))
            clear p2
            go_wp2_with fail
            go_meet
            exact ⟨congrArg Value.bool FM.out.symm, rfl⟩
        · have e1 : decide (t < 1099511627776) = false := decide_eq_false p1
          have FM := Aside0.mk (show mayB t c s g h = false from decide_eq_false (fun h => p1 h.2.1))
          clear p1
          go_wp2_with fail
          go_meet
          exact ⟨congrArg Value.bool FM.out.symm, rfl⟩
      · have e0 : decide (0 ≤ t) = false := decide_eq_false p0
        have FM := Aside0.mk (show mayB t c s g h = false from decide_eq_false (fun h => p0 h.1))
        clear p0
        go_wp2_with fail
        go_meet
        exact ⟨congrArg Value.bool FM.out.symm, rfl⟩
    case rest =>
      obtain ⟨rfl, rfl⟩ := hcut
      obtain ⟨m, hm⟩ : ∃ m, mayB t c s g h = m := ⟨_, rfl⟩
      have HM := Aside0.mk hm
      rw [hm]
      obtain ⟨k, c', v', s', g', ca, h', b, d, q, u, y0, y1, y2, y3, y4, hA, hO, hN, hT⟩ : ∃ (k c' v' s' g' ca h' : Int) (b d : Bool) (q u y0 y1 y2 y3 y4 : Int),
          alarm_Ask.f t c s g h = some (k, c', v', s', g', ca, h', b, d, q, u, m) ∧ alarm_Of.f k c' v' s' g' ca h' b d q u = some (y0, y1, y2, y3, y4, m) ∧
          alarm_Of.f 10 c' v' s' g' ca h' b d q u = some (0, 0, 0, 0, 0, false) ∧ (m = true → y0 = t ∧ y1 = c ∧ y2 = s ∧ y3 = g ∧ y4 = h ∧ k = 9 ∧ h' = h) := by
        cases m
        · exact ⟨_, _, _, _, _, _, _, _, _, _, _, _, _, _, _, _, ask_no t c s g h hm, of_no _ _ _ _ _ _ _ _ _ _ _ (by omega), of_no _ _ _ _ _ _ _ _ _ _ _ (by omega), fun h => by cases h⟩
        · exact ⟨_, _, _, _, _, _, _, _, _, _, _, _, _, _, _, _, ask_yes t c s g h hm, of_yes t c s g h hm, of_no _ _ _ _ _ _ _ _ _ _ _ (by omega), fun _ => ⟨rfl, rfl, rfl, rfl, rfl, rfl, rfl⟩⟩
      have KA := Aside0.mk (fun w => alarm_Ask.calls t c s g h _ _ _ _ _ _ _ _ _ _ _ _ w hA)
      have KO := Aside0.mk (fun w => alarm_Of.calls k c' v' s' g' ca h' b d q u _ _ _ _ _ _ w hO)
      have KN := Aside0.mk (fun w => alarm_Of.calls 10 c' v' s' g' ca h' b d q u _ _ _ _ _ _ w hN)
      have KM := Aside0.mk (fun w => alarm_May.calls t c s g h m w (by rw [may_f, hm]))
      have HT := Aside0.mk hT
      clear hm hA hO hN hT HM
      go_wp2_with fail
      refine (KA.out _).mono ?_
      rintro e w1 ⟨rfl, hb1⟩
      have X1 := Aside0.mk (HX.out.below hb1 HS.out)
      have B1 := Aside0.mk (HB.out.trans (hb1.mono HB.out.size))
      clear hb1 c0 c1 c2 c3 c4 HX HB
      go_wp2_with fail
      refine (KO.out _).mono ?_
      rintro e w2 ⟨rfl, hb2⟩
      have X2 := Aside0.mk ((show Holds .i64 24 _ x0 [t, c, s, g, h] from heap_old X1.out).below hb2 (by have := X1.out.lt; simp; omega))
      have F2 := Aside0.mk ((show HoldsV 27 _ w1.heap.size [.int .i64 k, .int .i64 c', .int .i64 v', .int .i64 s', .int .i64 g', .int .u32 ca, .int .i64 h', .bool b, .bool d, .int .i64 q, .int .u32 u] from heap_new _ _).below hb2 (by simp))
      have B2 := Aside0.mk ((B1.out.alloc B1.out.size _).trans (hb2.mono (by have := B1.out.size; simp; omega)))
      have F2' : HoldsV 27 (w2.alloc (.cells #[.int .i64 y0, .int .i64 y1, .int .i64 y2, .int .i64 y3, .int .i64 y4] 24)) w1.heap.size _ := heap_old F2.out
      have f0 := F2'.cell 0
      have f1 := F2'.cell 1
      have f2 := F2'.cell 2
      have f3 := F2'.cell 3
      have f4 := F2'.cell 4
      have f5 := F2'.cell 5
      have f6 := F2'.cell 6
      have f7 := F2'.cell 7
      have f8 := F2'.cell 8
      have f9 := F2'.cell 9
      have f10 := F2'.cell 10
      simp only [List.getElem?_cons_zero, List.getElem?_cons_succ] at f0 f1 f2 f3 f4 f5 f6 f7 f8 f9 f10
      clear hb2 F2'
      go_wp2_with fail
      refine (KN.out _).mono ?_
      rintro e w3 ⟨rfl, hb3⟩
      have X3 := Aside0.mk ((show Holds .i64 24 _ x0 [t, c, s, g, h] from heap_old (heap_old X2.out)).below hb3 (by have := X2.out.lt; simp; omega))
      have F3 := Aside0.mk ((show HoldsV 27 _ w1.heap.size [.int .i64 k, .int .i64 c', .int .i64 v', .int .i64 s', .int .i64 g', .int .u32 ca, .int .i64 h', .bool b, .bool d, .int .i64 q, .int .u32 u] from heap_old (heap_old F2.out)).below hb3 (by have := F2.out.lt; simp; omega))
      have Y3 := Aside0.mk ((show Holds .i64 24 _ w2.heap.size [y0, y1, y2, y3, y4] from heap_old (heap_new _ _)).below hb3 (by simp; omega))
      have B3 := Aside0.mk (((B2.out.alloc B2.out.size _).alloc (by have := B2.out.size; simp; omega) _).trans (hb3.mono (by have := B2.out.size; simp; omega)))
      clear hb3 f0 f1 f2 f3 f4 f5 f6 f7 f8 f9 f10
      go_wp2_with fail
      refine (awake_calls _).mono ?_
      rintro e w4 ⟨rfl, hb4⟩
      have X4 := Aside0.mk ((show Holds .i64 24 _ x0 [t, c, s, g, h] from heap_old X3.out).below hb4 (by have := X3.out.lt; simp; omega))
      have F4 := Aside0.mk ((show HoldsV 27 _ w1.heap.size [.int .i64 k, .int .i64 c', .int .i64 v', .int .i64 s', .int .i64 g', .int .u32 ca, .int .i64 h', .bool b, .bool d, .int .i64 q, .int .u32 u] from heap_old F3.out).below hb4 (by have := F3.out.lt; simp; omega))
      have Y4 := Aside0.mk ((show Holds .i64 24 _ w2.heap.size [y0, y1, y2, y3, y4] from heap_old Y3.out).below hb4 (by have := Y3.out.lt; simp; omega))
      have B4 := Aside0.mk ((B3.out.alloc B3.out.size _).trans (hb4.mono (by have := B3.out.size; simp; omega)))
      have xx0 := X4.out.cell (i := 0) (by simp)
      have xx1 := X4.out.cell (i := 1) (by simp)
      have xx2 := X4.out.cell (i := 2) (by simp)
      have xx3 := X4.out.cell (i := 3) (by simp)
      have xx4 := X4.out.cell (i := 4) (by simp)
      simp only [List.getElem?_cons_zero, List.getElem?_cons_succ, Option.getD_some] at xx0 xx1 xx2 xx3 xx4
      clear hb4
      go_wp2_with fail
      refine (KM.out _).mono ?_
      rintro e w5 ⟨rfl, hb5⟩
      have X5 := Aside0.mk (X4.out.below hb5 X4.out.lt)
      have F5 := Aside0.mk (F4.out.below hb5 F4.out.lt)
      have Y5 := Aside0.mk (Y4.out.below hb5 Y4.out.lt)
      have B5 := Aside0.mk (B4.out.trans (hb5.mono B4.out.size))
      clear hb5 xx0 xx1 xx2 xx3 xx4
      have xx0 := X5.out.cell (i := 0) (by simp)
      have xx1 := X5.out.cell (i := 1) (by simp)
      have xx2 := X5.out.cell (i := 2) (by simp)
      have xx3 := X5.out.cell (i := 3) (by simp)
      have xx4 := X5.out.cell (i := 4) (by simp)
      simp only [List.getElem?_cons_zero, List.getElem?_cons_succ, Option.getD_some] at xx0 xx1 xx2 xx3 xx4
      have yy0 := Y5.out.cell (i := 0) (by simp)
      have yy1 := Y5.out.cell (i := 1) (by simp)
      have yy2 := Y5.out.cell (i := 2) (by simp)
      have yy3 := Y5.out.cell (i := 3) (by simp)
      have yy4 := Y5.out.cell (i := 4) (by simp)
      simp only [List.getElem?_cons_zero, List.getElem?_cons_succ, Option.getD_some] at yy0 yy1 yy2 yy3 yy4
      have ff0 := F5.out.cell 0
      have ff6 := F5.out.cell 6
      simp only [List.getElem?_cons_zero, List.getElem?_cons_succ] at ff0 ff6
      cases m
      · go_wp2_with fail
        go_ret
        exact ⟨rfl, B5.out⟩
      · obtain ⟨rfl, rfl, rfl, rfl, rfl, rfl, rfl⟩ := HT.out rfl
        go_wp2_with fail
        go_ret
        exact ⟨rfl, B5.out⟩

theorem walk (a0_0 : Int) (a0_1 : Int) (a0_2 : Int) (a0_3 : Int) (a0_4 : Int) (a1 : Int) (W : World) (w0_0 : (Lit.int .i64 a0_0).wf = true) (w0_1 : (Lit.int .i64 a0_1).wf = true) (w0_2 : (Lit.int .i64 a0_2).wf = true) (w0_3 : (Lit.int .i64 a0_3).wf = true) (w0_4 : (Lit.int .i64 a0_4).wf = true) (w1 : (Lit.int .i64 a1).wf = true) :
    Calls Try.prog 3 #[.agg #[.int .i64 a0_0, .int .i64 a0_1, .int .i64 a0_2, .int .i64 a0_3, .int .i64 a0_4], .int .i64 a1] W fun e W' => e = .returned (.bool true) ∧ Below W.heap.size W W' :=
  core a0_0 a0_1 a0_2 a0_3 a0_4 a1 (a1 % 16).toNat W (by rw [i64_and15]; omega)
end Go.Proofs.Ythonkcldddfpnaa.walkAlarmAsks
