/- How often a call may be tried again, and how long that waits: the walk of BudgetWaits. -/
import Derived.Test.YtbbaonaahokidaaBudget
namespace Go.Proofs.Ytbbaonaahokidaa.waitsCore
open Go.RowKit Go.Proofs.Ytbbaonaahokidaa.PBudgetWaits Go.Proofs.YtbbaonaahokidaaW.PrintWords Go.Proofs.YtbbaonaahokidaaW.PrintLast Go.Proofs.YtbbaonaahokidaaW.PrintMore Go.Proofs.Ytbbaonaahokidaa.Aid Go.Proofs.Ytbbaonaahokidaa.Quiet Go.Proofs.Ytbbaonaahokidaa.Blk Go.Proofs.Ytbbaonaahokidaa.State Go.Proofs.Ytbbaonaahokidaa.Budget
set_option linter.unusedVariables false
attribute [local go_sem] max2_int min2_int max_two min_two

set_option maxHeartbeats 4000000 in
set_option maxRecDepth 100000 in
theorem core1 (NEW : ∀ (m gn co ro wa bo g1 c1 r1 : Int) (w : World), mn (mx gn 0) 1048576 = g1 → mn (mx co 0) 1048576 = c1 → mn (mx ro 0) 1048576 = r1 →
    Calls Try.prog 31 #[.agg #[.int .i64 m, .int .i64 gn, .int .i64 co, .int .i64 ro, .int .i64 wa, .int .i64 bo]] w fun r w' =>
      r = .returned (.pointer (some ⟨w.heap.size + 1, 0, none⟩)) ∧ Holds .i64 111 w' (w.heap.size + 1) [m, g1, c1, r1, wa, bo, r1] ∧ Below w.heap.size w w')
    (AWK : ∀ w : World, Calls Try.prog 36 #[] w fun e w' => e = .returned (.bool true) ∧ Below w.heap.size w w')
    (mo g c r wa bo a1 m k n v mo1 g1 c1 r1 : Int) (W : World) (hm : mx a1 1 = m) (hm1 : 1 ≤ m ∧ m ≤ 9223372036854775807) (hk : mn m 100 = k) (hn : k - 1 = n) (hmo : mn (mx mo 0) 14 = mo1)
    (hg : mn (mx g 0) 1048576 = g1) (hc : mn (mx c 0) 1048576 = c1) (hr : mn (mx r 0) 1048576 = r1)
    (ht : ticks_Twice.f 42 wa (m - 1) bo = some v) (hf : cablewayref03_Twice.f 66 wa n bo = some v) (hlt : v < 1) :
    Calls Try.prog 8 #[.agg #[.int .i64 mo, .int .i64 g, .int .i64 c, .int .i64 r, .int .i64 wa, .int .i64 bo], .int .i64 a1] W fun e W' => e = .returned (.bool true) ∧ Below W.heap.size W W' := by
  have hm' : (if a1 < 1 then 1 else a1) = m := hm
  have hk' : (if 100 < m then 100 else m) = k := hk
  have hkb : 1 ≤ k ∧ k ≤ 100 := by rw [← hk]; unfold mn; split <;> omega
  obtain ⟨mo0, hmo0⟩ : ∃ z, (if mo < 0 then 0 else mo) = z := ⟨_, rfl⟩
  have hmo' : (if 14 < mo0 then 14 else mo0) = mo1 := by rw [← hmo, ← hmo0]; rfl
  have hwf : (Lit.int .i64 m).wf = true := by have h1 := hm1.1; have h2 := hm1.2; simp [Lit.wf, IntKind.min, IntKind.max, IntKind.bits, IntKind.signed]; omega
  have HM := Aside0.mk hm
  have HT := Aside0.mk ht
  have HF := Aside0.mk hf
  have HV := Aside0.mk (show mx v 1 = 1 by unfold mx; rw [if_pos hlt])
  have hd : decide (v < 1) = true := decide_eq_true hlt
  have HMO := Aside0.mk hmo
  have AW := Aside0.mk AWK
  clear hm hk ht hf hmo hlt AWK
  go_enter Try.func8, Try.ntmps8
  go_wp2_with fail
  refine (NEW mo g c r wa bo g1 c1 r1 _ hg hc hr).mono ?_
  rintro e w1 ⟨rfl, hN, hB⟩
  have HN := Aside0.mk (show Holds .i64 111 w1 (W.heap.size + 2) [mo, g1, c1, r1, wa, bo, r1] by have h := hN; simpa using h)
  have HB0 := Aside0.mk (show Below (W.heap.size + 1) (W.alloc (.cells (arr .i64 [mo, g, c, r, wa, bo]) 59)) w1 by have h := hB; simp at h; exact h)
  have HX := Aside0.mk ((show Holds .i64 59 _ W.heap.size [mo, g, c, r, wa, bo] from heap_new _ _).below HB0.out (by omega))
  have HB := Aside0.mk (((Below.refl W.heap.size W).alloc (Nat.le_refl _) _).trans (HB0.out.mono (by omega)))
  have d4 := HX.out.cell (i := 4) (by simp)
  have d5 := HX.out.cell (i := 5) (by simp)
  have d0 := HX.out.cell (i := 0) (by simp)
  simp only [List.getElem?_cons_zero, List.getElem?_cons_succ, Option.getD_some] at d4 d5 d0
  clear hN hB hg hc hr HB0 NEW
  go_wp2_with (first | (go_at_call 37; refine (cablewayref03_Twice.calls _ _ _ _ _ _ HF.out).mono ?_; rintro e w2 ⟨rfl, nd, rfl⟩))
  refine (well_nil _).mono ?_
  rintro e w3 ⟨rfl, n3, rfl⟩
  go_wp2_with fail
  obtain ⟨w2, hw2⟩ : ∃ w2, w1.drewN (nd + n3) = w2 := ⟨_, rfl⟩
  rw [hw2]
  have HN2 := Aside0.mk (show Holds .i64 111 w2 (W.heap.size + 2) [mo, g1, c1, r1, wa, bo, r1] from hw2 ▸ HN.out)
  have d02 : w2.cell? ⟨W.heap.size, 0, none⟩ = some (.int .i64 mo) := hw2 ▸ d0
  have HB2 := Aside0.mk (show Below W.heap.size W w2 from hw2 ▸ below_drewN HB.out _)
  have hz : W.heap.size < w2.heap.size := by rw [← hw2]; exact HX.out.lt
  have hzN := HN2.out.lt
  clear hw2 d0 d4 d5 HN HB
  have HMOST := Aside0.mk (fun (x : World) (h : Holds .i64 111 x (W.heap.size + 2) [mo, g1, c1, r1, wa, bo, r1]) => most_some (W.heap.size + 2) mo mo1 x (h.cell (i := 0) (by simp)) HMO.out)
  have HWAIT := Aside0.mk (fun (x : World) (h : Holds .i64 111 x (W.heap.size + 2) [mo, g1, c1, r1, wa, bo, r1]) => wait_some 42 (W.heap.size + 2) a1 m wa bo v 1 x (h.cell (i := 4) (by simp)) (h.cell (i := 5) (by simp)) HM.out hwf HT.out HV.out)
  clear HMO HM HT HV HF hm' hk' hkb hm1 hn hwf
  refine wp_region_below (by kernel_rfl) (by kernel_rfl) ?_
  repeat (go_big_quiet_step ((intro hw; first
    | (with_reducible rfl)
    | (go_at_call 36; with_reducible exact q_below hw (AW.out _))
    | (go_at_call 38; first | with_reducible exact q_drawn hw (most_nil _) | with_reducible exact q_drawn hw (HMOST.out _ (HN2.out.below hw hzN)))
    | (go_at_call 39; first | with_reducible exact q_drawn hw (wait_nil _ _) | with_reducible exact q_below hw (HWAIT.out _ (HN2.out.below hw hzN)))
    | (go_at_call 35; with_reducible exact q_drawn hw (left_nil _))
    | (go_at_call 34; with_reducible exact q_drawn hw (take_nil _))
    | (have e0 := (hw.cell (p := ⟨W.heap.size, 0, none⟩) hz).trans d02
       simp only [e0, Result.andThen_ok]; go_simp; first | rfl | exact ⟨rfl, rfl⟩))))
  refine wpQuiet_nil ?_
  intro W2 hb2
  go_wp2_with fail
  go_ret
  exact ⟨rfl, HB2.out.trans (hb2.mono HB2.out.size)⟩

set_option maxHeartbeats 4000000 in
set_option maxRecDepth 100000 in
theorem core2 (NEW : ∀ (m gn co ro wa bo g1 c1 r1 : Int) (w : World), mn (mx gn 0) 1048576 = g1 → mn (mx co 0) 1048576 = c1 → mn (mx ro 0) 1048576 = r1 →
    Calls Try.prog 31 #[.agg #[.int .i64 m, .int .i64 gn, .int .i64 co, .int .i64 ro, .int .i64 wa, .int .i64 bo]] w fun r w' =>
      r = .returned (.pointer (some ⟨w.heap.size + 1, 0, none⟩)) ∧ Holds .i64 111 w' (w.heap.size + 1) [m, g1, c1, r1, wa, bo, r1] ∧ Below w.heap.size w w')
    (AWK : ∀ w : World, Calls Try.prog 36 #[] w fun e w' => e = .returned (.bool true) ∧ Below w.heap.size w w')
    (mo g c r wa bo a1 m k n v mo1 g1 c1 r1 : Int) (W : World) (hm : mx a1 1 = m) (hm1 : 1 ≤ m ∧ m ≤ 9223372036854775807) (hk : mn m 100 = k) (hn : k - 1 = n) (hmo : mn (mx mo 0) 14 = mo1)
    (hg : mn (mx g 0) 1048576 = g1) (hc : mn (mx c 0) 1048576 = c1) (hr : mn (mx r 0) 1048576 = r1)
    (ht : ticks_Twice.f 42 wa (m - 1) bo = some v) (hf : cablewayref03_Twice.f 66 wa n bo = some v) (hlt : ¬ v < 1) :
    Calls Try.prog 8 #[.agg #[.int .i64 mo, .int .i64 g, .int .i64 c, .int .i64 r, .int .i64 wa, .int .i64 bo], .int .i64 a1] W fun e W' => e = .returned (.bool true) ∧ Below W.heap.size W W' := by
  have hm' : (if a1 < 1 then 1 else a1) = m := hm
  have hk' : (if 100 < m then 100 else m) = k := hk
  have hkb : 1 ≤ k ∧ k ≤ 100 := by rw [← hk]; unfold mn; split <;> omega
  obtain ⟨mo0, hmo0⟩ : ∃ z, (if mo < 0 then 0 else mo) = z := ⟨_, rfl⟩
  have hmo' : (if 14 < mo0 then 14 else mo0) = mo1 := by rw [← hmo, ← hmo0]; rfl
  have hwf : (Lit.int .i64 m).wf = true := by have h1 := hm1.1; have h2 := hm1.2; simp [Lit.wf, IntKind.min, IntKind.max, IntKind.bits, IntKind.signed]; omega
  have HM := Aside0.mk hm
  have HT := Aside0.mk ht
  have HF := Aside0.mk hf
  have HV := Aside0.mk (show mx v 1 = v by unfold mx; rw [if_neg hlt])
  have hd : decide (v < 1) = false := decide_eq_false hlt
  have HMO := Aside0.mk hmo
  have AW := Aside0.mk AWK
  clear hm hk ht hf hmo hlt AWK
  go_enter Try.func8, Try.ntmps8
  go_wp2_with fail
  refine (NEW mo g c r wa bo g1 c1 r1 _ hg hc hr).mono ?_
  rintro e w1 ⟨rfl, hN, hB⟩
  have HN := Aside0.mk (show Holds .i64 111 w1 (W.heap.size + 2) [mo, g1, c1, r1, wa, bo, r1] by have h := hN; simpa using h)
  have HB0 := Aside0.mk (show Below (W.heap.size + 1) (W.alloc (.cells (arr .i64 [mo, g, c, r, wa, bo]) 59)) w1 by have h := hB; simp at h; exact h)
  have HX := Aside0.mk ((show Holds .i64 59 _ W.heap.size [mo, g, c, r, wa, bo] from heap_new _ _).below HB0.out (by omega))
  have HB := Aside0.mk (((Below.refl W.heap.size W).alloc (Nat.le_refl _) _).trans (HB0.out.mono (by omega)))
  have d4 := HX.out.cell (i := 4) (by simp)
  have d5 := HX.out.cell (i := 5) (by simp)
  have d0 := HX.out.cell (i := 0) (by simp)
  simp only [List.getElem?_cons_zero, List.getElem?_cons_succ, Option.getD_some] at d4 d5 d0
  clear hN hB hg hc hr HB0 NEW
  go_wp2_with (first | (go_at_call 37; refine (cablewayref03_Twice.calls _ _ _ _ _ _ HF.out).mono ?_; rintro e w2 ⟨rfl, nd, rfl⟩))
  refine (well_nil _).mono ?_
  rintro e w3 ⟨rfl, n3, rfl⟩
  go_wp2_with fail
  obtain ⟨w2, hw2⟩ : ∃ w2, w1.drewN (nd + n3) = w2 := ⟨_, rfl⟩
  rw [hw2]
  have HN2 := Aside0.mk (show Holds .i64 111 w2 (W.heap.size + 2) [mo, g1, c1, r1, wa, bo, r1] from hw2 ▸ HN.out)
  have d02 : w2.cell? ⟨W.heap.size, 0, none⟩ = some (.int .i64 mo) := hw2 ▸ d0
  have HB2 := Aside0.mk (show Below W.heap.size W w2 from hw2 ▸ below_drewN HB.out _)
  have hz : W.heap.size < w2.heap.size := by rw [← hw2]; exact HX.out.lt
  have hzN := HN2.out.lt
  clear hw2 d0 d4 d5 HN HB
  have HMOST := Aside0.mk (fun (x : World) (h : Holds .i64 111 x (W.heap.size + 2) [mo, g1, c1, r1, wa, bo, r1]) => most_some (W.heap.size + 2) mo mo1 x (h.cell (i := 0) (by simp)) HMO.out)
  have HWAIT := Aside0.mk (fun (x : World) (h : Holds .i64 111 x (W.heap.size + 2) [mo, g1, c1, r1, wa, bo, r1]) => wait_some 42 (W.heap.size + 2) a1 m wa bo v v x (h.cell (i := 4) (by simp)) (h.cell (i := 5) (by simp)) HM.out hwf HT.out HV.out)
  clear HMO HM HT HV HF hm' hk' hkb hm1 hn hwf
  refine wp_region_below (by kernel_rfl) (by kernel_rfl) ?_
  repeat (go_big_quiet_step ((intro hw; first
    | (with_reducible rfl)
    | (go_at_call 36; with_reducible exact q_below hw (AW.out _))
    | (go_at_call 38; first | with_reducible exact q_drawn hw (most_nil _) | with_reducible exact q_drawn hw (HMOST.out _ (HN2.out.below hw hzN)))
    | (go_at_call 39; first | with_reducible exact q_drawn hw (wait_nil _ _) | with_reducible exact q_below hw (HWAIT.out _ (HN2.out.below hw hzN)))
    | (go_at_call 35; with_reducible exact q_drawn hw (left_nil _))
    | (go_at_call 34; with_reducible exact q_drawn hw (take_nil _))
    | (have e0 := (hw.cell (p := ⟨W.heap.size, 0, none⟩) hz).trans d02
       simp only [e0, Result.andThen_ok]; go_simp; first | rfl | exact ⟨rfl, rfl⟩))))
  refine wpQuiet_nil ?_
  intro W2 hb2
  go_wp2_with fail
  go_ret
  exact ⟨rfl, HB2.out.trans (hb2.mono HB2.out.size)⟩

end Go.Proofs.Ytbbaonaahokidaa.waitsCore
