/- What goes well gives, what is tried again takes, as far as there is room, and something left: the walk of BudgetPlays. -/
import Derived.Test.YtbbaonaahokidaaBudgetNew
import Derived.Test.YtbbaonaahokidaaOpen
import Derived.Deep.CutRange
namespace Go.Proofs.Ytbbaonaahokidaa.walkBudgetPlays
open Go.RowKit Go.Proofs.Ytbbaonaahokidaa.Open Go.Proofs.Ytbbaonaahokidaa.PBudgetWaits Go.Proofs.YtbbaonaahokidaaW.PrintWords Go.Proofs.YtbbaonaahokidaaW.PrintLast Go.Proofs.YtbbaonaahokidaaW.PrintMore Go.Proofs.Ytbbaonaahokidaa.Aid Go.Proofs.Ytbbaonaahokidaa.Quiet Go.Proofs.Ytbbaonaahokidaa.Blk Go.Proofs.Ytbbaonaahokidaa.State Go.Proofs.Ytbbaonaahokidaa.Budget
set_option linter.unusedVariables false
attribute [local go_sem] max2_int min2_int max_two min_two

set_option maxHeartbeats 4000000 in
set_option maxRecDepth 100000 in
theorem core (m g c r wa bo g3 c7 r15 : Int) (A : Option Addr) (l : List (Pts [.bool])) (cc : Nat) (small : Bool) (W : World) (H1 : Go.bits .and .i64 g 3 = g3) (H2 : Go.bits .and .i64 c 7 = c7) (H3 : Go.bits .and .i64 r 15 = r15)
    (hl : l.length ≤ 9223372036854775807) (ro : RowsOf W [.bool] A l) :
    Calls Try.prog 7 #[.agg #[.int .i64 m, .int .i64 g, .int .i64 c, .int .i64 r, .int .i64 wa, .int .i64 bo], .slice A l.length cc, .bool small] W fun e W' => e = .returned (.bool true) ∧ Below W.heap.size W W' := by
  have HR := Aside0.mk ro
  clear ro
  go_enter Try.func7, Try.ntmps7
  go_upto_if 13 with fail
  go_cut [] from 14 to 25 (fun w => ∃ g' c' r' : Int, Holds .i64 59 w (W.heap.size + 1) [m, g', c', r', wa, bo] ∧ Below W.heap.size W w ∧ w.heap.size = W.heap.size + 2)
  case first =>
    go_wp2_with fail
    · go_region
      all_goals go_wp2
      all_goals go_meet
      case rel =>
        exact ⟨g3, c7, r15, (heap_new' _ (by simp) : Holds .i64 59 _ (W.heap.size + 1) [m, g3, c7, r15, wa, bo]), (((Below.refl _ W).alloc (Nat.le_refl _) _).alloc (by simp) _).drew, by simp⟩
    · go_meet
      case rel => exact ⟨g, c, r, (heap_new' _ (by simp) : Holds .i64 59 _ (W.heap.size + 1) [m, g, c, r, wa, bo]), ((Below.refl _ W).alloc (Nat.le_refl _) _).alloc (by simp) _, by simp⟩
  case rest =>
    rename_i wc
    obtain ⟨g', c', r', hH, hB, hz⟩ := hcut
    have c0 := hH.cell (i := 0) (by simp)
    have c1 := hH.cell (i := 1) (by simp)
    have c2 := hH.cell (i := 2) (by simp)
    have c3 := hH.cell (i := 3) (by simp)
    have c4 := hH.cell (i := 4) (by simp)
    have c5 := hH.cell (i := 5) (by simp)
    simp only [List.getElem?_cons_zero, List.getElem?_cons_succ, Option.getD_some] at c0 c1 c2 c3 c4 c5
    go_upto_region 4 with fail
    obtain ⟨g4, hg4⟩ : ∃ v, mn (mx g' 0) 1048576 = v := ⟨_, rfl⟩
    obtain ⟨c4', hc4⟩ : ∃ v, mn (mx c' 0) 1048576 = v := ⟨_, rfl⟩
    obtain ⟨r4, hr4⟩ : ∃ v, mn (mx r' 0) 1048576 = v := ⟨_, rfl⟩
    have HH := Aside0.mk hH
    have HB := Aside0.mk hB
    have HGG := Aside0.mk hg4
    have HCC := Aside0.mk hc4
    have HRR := Aside0.mk hr4
    clear hH hB hg4 hc4 hr4
    go_cut [8, 9] from 26 to 30 (fun p left w => p = .pointer (some ⟨W.heap.size + 3, 0, none⟩) ∧ left = .int .i64 r4 ∧ Holds .i64 111 w (W.heap.size + 3) [m, g4, c4', r4, wa, bo, r4] ∧ Below wc.heap.size wc w)
    case first =>
      go_region_with (first
        | (go_at_call 31; refine (new_calls m g' c' r' wa bo g4 c4' r4 _ HGG.out HCC.out HRR.out).mono ?_; rintro e w' ⟨rfl, hN, hBN⟩; have d3 := (hBN.cell (p := ⟨W.heap.size + 1, 3, none⟩) (by simp; omega)).trans c3; have hN' : Holds .i64 111 w' (W.heap.size + 3) [m, g4, c4', r4, wa, bo, r4] := (by have h := hN; simpa [hz] using h); have hB' : Below wc.heap.size wc w' := ⟨hBN.os, hBN.tape, hBN.output, hBN.size, hBN.block⟩; clear hN hBN)
        | (go_at_call 32; refine (lcut_calls r' r4 _ HRR.out).mono ?_; rintro e w' ⟨rfl, nn, rfl⟩))
      all_goals (go_wp2_with fail; go_meet)
      all_goals case rel => exact ⟨rfl, rfl, hN'.drewN _, below_drewN hB' _⟩
    case rest =>
      obtain ⟨rfl, rfl, hN, hB1⟩ := hcut
      rename_i wd
      have HN := Aside0.mk hN
      have HX := Aside0.mk (HH.out.below hB1 (by omega))
      have HB2 := Aside0.mk (HB.out.trans (hB1.mono (by omega)))
      have hg0 : 0 ≤ g4 ∧ g4 ≤ 1048576 := by rw [← HGG.out]; unfold mn mx; split <;> split <;> omega
      have hc0 : 0 ≤ c4' ∧ c4' ≤ 1048576 := by rw [← HCC.out]; unfold mn mx; split <;> split <;> omega
      have hr0 : 0 ≤ r4 ∧ r4 ≤ 1048576 := by rw [← HRR.out]; unfold mn mx; split <;> split <;> omega
      clear hN hB1 HH HB c0 c1 c2 c3 c4 c5 hz
      go_wp2_with fail
      go_loopw [9, 10] (fun left i wr => ∃ (k : Nat) (v : Int), k ≤ 60 ∧ i = .int .i64 k ∧ left = .int .i64 v ∧ 0 ≤ v ∧ v ≤ r4 ∧ Holds .i64 111 wr (W.heap.size + 3) [m, g4, c4', r4, wa, bo, v] ∧ Holds .i64 59 wr (W.heap.size + 1) [m, g', c', r', wa, bo] ∧ Below W.heap.size W wr) (fun _ i _ => 60 - (intOf i).toNat)
      case atStart => exact ⟨0, r4, by omega, rfl, rfl, hr0.1, Int.le_refl _, HN.out, HX.out, HB2.out⟩
      case round =>
        obtain ⟨i, v, hi, rfl, rfl, hv0, hv1, hG, hX, hB⟩ := hrel
        have HG := Aside0.mk hG
        have HX := Aside0.mk hX
        have HB := Aside0.mk hB
        have b1 := hG.cell (i := 1) (by simp)
        have b2 := hG.cell (i := 2) (by simp)
        have b3 := hG.cell (i := 3) (by simp)
        have b6 := hG.cell (i := 6) (by simp)
        have d1 := hX.cell (i := 1) (by simp)
        have d2 := hX.cell (i := 2) (by simp)
        have d3 := hX.cell (i := 3) (by simp)
        simp only [List.getElem?_cons_zero, List.getElem?_cons_succ, Option.getD_some] at b1 b2 b3 b6 d1 d2 d3
        clear hG hX hB HN HB2
        by_cases hlt : i < l.length ∧ i < 60
        · obtain ⟨hlt, h60⟩ := hlt
          obtain ⟨a, ha, hrow⟩ := HR.out i hlt
          subst ha
          have ca := hrow 0 (by decide)
          obtain ⟨q, hq⟩ : ∃ q, (l[i]).1 = q := ⟨_, rfl⟩
          have hw2 := (HB.out.cell (p := a.add (i * 1 + 0)) (World.block_lt_of_cell? _ _ ca)).trans ca
          have ci : wr.cell? (a.add i) = some (.bool q) := by rw [← hq]; simpa [vals] using hw2
          clear hw2 ca hrow hq
          have HR2 := HR
          cases q
          · by_cases hle : c4' ≤ v
            · have dle : decide (c4' ≤ v) = true := decide_eq_true hle
              go_wp2_with fail
              refine (lcut_calls c' c4' _ HCC.out).mono ?_
              rintro e w' ⟨rfl, n1, rfl⟩
              go_wp2_with fail
              refine (take_some (W.heap.size + 3) c4' v (wr.drewN n1) b2 b6 (HG.out.free 6) hc0 (by omega) hle).mono ?_
              rintro e w5 ⟨rfl, hs⟩
              have HG5 := Aside0.mk (show Holds .i64 111 w5 (W.heap.size + 3) [m, g4, c4', r4, wa, bo, v - c4'] from hs.blk ((HG.out.drewN n1).set 6 (v - c4')))
              have HO5 := Aside0.mk (((OnlyAt.refl (W.heap.size + 3) (wr.drewN n1)).set 6 (.int .i64 (v - c4'))).same hs)
              have HX5 := Aside0.mk (HO5.out.blk (k := W.heap.size + 1) (by omega) (HX.out.drewN n1))
              have HB5 := Aside0.mk (HO5.out.below (below_drewN HB.out n1) (by omega) HB.out.size)
              have d25 := Holds.cell HX5.out (i := 2) (by simp)
              simp only [List.getElem?_cons_zero, List.getElem?_cons_succ, Option.getD_some] at d25
              clear hs
              go_wp2_with fail
              refine (lcut_calls c' c4' _ HCC.out).mono ?_
              rintro e w' ⟨rfl, n2, rfl⟩
              go_wp2_with fail
              refine (left_some (W.heap.size + 3) (v - c4') _ ((Holds.drewN HG5.out _).cell (i := 6) (by simp))).mono ?_
              rintro e w' ⟨rfl, n9, rfl⟩
              go_wp2_with fail
              go_roundw
              case rel => exact ⟨i + 1, (v - c4'), by omega, by go_num, rfl, by omega, by omega, Holds.drewN HG5.out _, Holds.drewN HX5.out _, below_drewN HB5.out _⟩
              case measure => simp [intOf]; omega
            · have dle : decide (c4' ≤ v) = false := decide_eq_false hle
              go_wp2_with fail
              refine (lcut_calls c' c4' _ HCC.out).mono ?_
              rintro e w' ⟨rfl, n1, rfl⟩
              go_wp2_with fail
              refine (take_less (W.heap.size + 3) c4' v (wr.drewN n1) b2 b6 (by omega)).mono ?_
              rintro e w5 ⟨rfl, n2, rfl⟩
              go_wp2_with fail
              refine (left_some (W.heap.size + 3) v _ ((HG.out.drewN _).cell (i := 6) (by simp))).mono ?_
              rintro e w' ⟨rfl, n9, rfl⟩
              go_wp2_with fail
              go_roundw
              case rel => exact ⟨i + 1, v, by omega, by go_num, rfl, by omega, by omega, HG.out.drewN _, HX.out.drewN _, below_drewN HB.out _⟩
              case measure => simp [intOf]; omega
          · obtain ⟨v5, hv5⟩ : ∃ v5, mn (v + g4) r4 = v5 := ⟨_, rfl⟩
            have hv5b : 0 ≤ v5 ∧ v5 ≤ r4 := by rw [← hv5]; unfold mn; split <;> omega
            have hv5' : (if r4 < v + g4 then r4 else v + g4) = v5 := hv5
            go_wp2_with fail
            refine (well_some (W.heap.size + 3) g4 r4 v v5 wr b1 b3 b6 (HG.out.free 6) ⟨hg0.1, hg0.2, hv0, by omega⟩ hv5).mono ?_
            rintro e w5 ⟨rfl, hs⟩
            have HG5 := Aside0.mk (show Holds .i64 111 w5 (W.heap.size + 3) [m, g4, c4', r4, wa, bo, v5] from hs.blk (HG.out.set 6 v5))
            have HO5 := Aside0.mk (((OnlyAt.refl (W.heap.size + 3) wr).set 6 (.int .i64 v5)).same hs)
            have HX5 := Aside0.mk (HO5.out.blk (k := W.heap.size + 1) (by omega) HX.out)
            have HB5 := Aside0.mk (HO5.out.below HB.out (by omega) HB.out.size)
            have d15 := Holds.cell HX5.out (i := 1) (by simp)
            have d35 := Holds.cell HX5.out (i := 3) (by simp)
            simp only [List.getElem?_cons_zero, List.getElem?_cons_succ, Option.getD_some] at d15 d35
            clear hs hv5
            go_wp2_with fail
            have hz5 := Holds.lt HX5.out
            refine wp_region_below (by kernel_rfl) (by kernel_rfl) ?_
            repeat (go_big_quiet_step ((intro hw; first
              | (with_reducible rfl)
              | (go_at_call 32; first | exact q_drawn hw (lcut_calls g' g4 _ HGG.out) | exact q_drawn hw (lcut_calls r' r4 _ HRR.out))
              | (have e1 := (hw.cell (p := ⟨W.heap.size + 1, 1, none⟩) hz5).trans d15; have e3 := (hw.cell (p := ⟨W.heap.size + 1, 3, none⟩) hz5).trans d35
                 simp only [e1, e3, Result.andThen_ok]; go_simp; first | rfl | exact ⟨rfl, rfl⟩))))
            refine wpQuiet_nil ?_
            intro W2 hb2
            have HG6 := Aside0.mk (Holds.below HG5.out hb2 HG5.out.lt)
            have HX6 := Aside0.mk (Holds.below HX5.out hb2 hz5)
            have HB6 := Aside0.mk (HB5.out.trans (hb2.mono HB5.out.size))
            have d6 := Holds.cell HG6.out (i := 6) (by simp)
            clear hb2 d15 d35 b1 b2 b3 b6 d1 d2 d3
            go_wp2_with fail
            refine (left_some (W.heap.size + 3) v5 _ ((HG6.out).cell (i := 6) (by simp))).mono ?_
            rintro e w' ⟨rfl, n9, rfl⟩
            go_wp2_with fail
            go_roundw
            case rel => exact ⟨i + 1, v5, by omega, by go_num, rfl, by omega, by omega, Holds.drewN HG6.out _, Holds.drewN HX6.out _, below_drewN HB6.out _⟩
            case measure => simp [intOf]; omega
        · by_cases h1 : i < l.length
          · obtain rfl : i = 60 := by omega
            go_wp2_with (first | (go_at_call 36; refine (awake_calls _).mono ?_; rintro e w3 ⟨rfl, hb3⟩))
            go_ret
            exact ⟨rfl, HB.out.trans (hb3.mono HB.out.size)⟩
          · go_wp2_with (first | (go_at_call 36; refine (awake_calls _).mono ?_; rintro e w3 ⟨rfl, hb3⟩))
            go_ret
            exact ⟨rfl, HB.out.trans (hb3.mono HB.out.size)⟩

theorem walk (a0_0 : Int) (a0_1 : Int) (a0_2 : Int) (a0_3 : Int) (a0_4 : Int) (a0_5 : Int) (A1 : Option Addr) (c1 : Nat) (l1 : List (Pts [.bool])) (a2 : Bool) (W : World) (w0_0 : (Lit.int .i64 a0_0).wf = true) (w0_1 : (Lit.int .i64 a0_1).wf = true) (w0_2 : (Lit.int .i64 a0_2).wf = true) (w0_3 : (Lit.int .i64 a0_3).wf = true) (w0_4 : (Lit.int .i64 a0_4).wf = true) (w0_5 : (Lit.int .i64 a0_5).wf = true) (ro1 : RowsOf W [.bool] A1 l1) (w1 : ∀ x ∈ l1, wfs [.bool] x) (lc1 : l1.length ≤ c1) (cm1 : c1 ≤ maxLen) (nn1 : A1 = none → c1 = 0) :
    Calls Try.prog 7 #[.agg #[.int .i64 a0_0, .int .i64 a0_1, .int .i64 a0_2, .int .i64 a0_3, .int .i64 a0_4, .int .i64 a0_5], .slice A1 l1.length c1, .bool a2] W fun e W' => e = .returned (.bool true) ∧ Below W.heap.size W W' :=
  core _ _ _ _ _ _ _ _ _ A1 l1 c1 a2 W rfl rfl rfl (by unfold maxLen at cm1; omega) ro1
end Go.Proofs.Ytbbaonaahokidaa.walkBudgetPlays
