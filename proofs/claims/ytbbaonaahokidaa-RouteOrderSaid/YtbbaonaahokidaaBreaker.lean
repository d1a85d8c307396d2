/- A breaker: contracts of a shut one. -/
import Derived.Test.YtbbaonaahokidaaWinRef
namespace Go.Proofs.Ytbbaonaahokidaa.Breaker
open Go.RowKit Go.Proofs.YtbbaonaahokidaaW.PrintWords Go.Proofs.YtbbaonaahokidaaW.PrintLast Go.Proofs.YtbbaonaahokidaaW.PrintMore Go.Proofs.Ytbbaonaahokidaa.Aid Go.Proofs.Ytbbaonaahokidaa.Quiet Go.Proofs.Ytbbaonaahokidaa.Blk Go.Proofs.Ytbbaonaahokidaa.State Go.Proofs.Ytbbaonaahokidaa.Vals Go.Proofs.Ytbbaonaahokidaa.Window
set_option linter.unusedVariables false
set_option linter.unusedSimpArgs false
attribute [local go_sem] max2_int min2_int max_two min_two

/-- A breaker's own eleven cells. -/
def brV (nb wt least part cool trials : Int) (g : Nat) (st un tr ou : Int) : List Value :=
  [.int .i64 nb, .int .i64 wt, .int .i64 least, .int .i64 part, .int .i64 cool, .int .i64 trials, .pointer (some ⟨g, 0, none⟩), .int .i64 st, .int .i64 un, .int .i64 tr, .int .i64 ou]
/-- A shut one's state is 0; nothing is changed. -/
theorem state_shut (br g : Nat) (nb wt least part cool trials un tr ou now : Int) (w : World) (h : HoldsV 115 w br (brV nb wt least part cool trials g 0 un tr ou)) :
    Calls Try.prog 42 #[.pointer (some ⟨br, 0, none⟩), .int .i64 now] w fun r w' => r = .returned (.int .i64 0) ∧ ∃ m, w' = w.drewN m := by
  have c7 := h.cell 7
  simp only [brV, List.getElem?_cons_zero, List.getElem?_cons_succ] at c7
  clear h
  go_enter Try.func42, Try.ntmps42
  go_wp2_with fail
  go_ret
  first | exact ⟨rfl, _, rfl⟩ | exact ⟨rfl, 0, rfl⟩
/-- A shut one lets all go. -/
theorem may_shut (br g : Nat) (nb wt least part cool trials un tr ou now : Int) (w : World) (h : HoldsV 115 w br (brV nb wt least part cool trials g 0 un tr ou)) :
    Calls Try.prog 43 #[.pointer (some ⟨br, 0, none⟩), .int .i64 now] w fun r w' => r = .returned (.bool true) ∧ ∃ m, w' = w.drewN m := by
  have KS := Aside0.mk (state_shut br g nb wt least part cool trials un tr ou now w h)
  clear h
  go_enter Try.func43, Try.ntmps43
  go_wp2_with fail
  refine KS.out.mono ?_
  rintro e w1 ⟨rfl, n1, rfl⟩
  go_wp2_with fail
  go_ret
  first | exact ⟨rfl, _, rfl⟩ | exact ⟨rfl, 0, rfl⟩
/-- Whether too much did not go well. -/
theorem worse_at (br g : Nat) (nb wt least part cool trials st un tr ou well ill : Int) (bw : Bool) (w : World) (h : HoldsV 115 w br (brV nb wt least part cool trials g st un tr ou)) (hw : 0 ≤ well ∧ well ≤ 1000) (hi : 0 ≤ ill ∧ ill ≤ 1000) (hp : 0 ≤ part ∧ part ≤ 100)
    (hb : (decide (least ≤ well + ill) && decide ((well + ill) * part ≤ ill * 100)) = bw) :
    Calls Try.prog 70 #[.pointer (some ⟨br, 0, none⟩), .agg #[.int .i64 well, .int .i64 ill]] w fun r w' => r = .returned (.bool bw) ∧ Below w.heap.size w w' := by
  have hu52 := Try.underlying52
  have H := Aside0.mk (show HoldsV 115 (w.alloc (.cells #[.int .i64 well, .int .i64 ill] 52)) br (brV nb wt least part cool trials g st un tr ou) from heap_old h)
  have B := Aside0.mk ((Below.refl w.heap.size w).alloc (Nat.le_refl _) (.cells #[.int .i64 well, .int .i64 ill] 52))
  obtain ⟨al, hal⟩ : ∃ x, well + ill = x := ⟨_, rfl⟩
  obtain ⟨pr, hpr⟩ : ∃ x, al * part = x := ⟨_, rfl⟩
  have halb : 0 ≤ al ∧ al ≤ 2000 := by omega
  have hprb : 0 ≤ pr ∧ pr ≤ 200000 := by
    rw [← hpr]
    exact ⟨Int.mul_nonneg halb.1 hp.1, Int.le_trans (Int.mul_le_mul halb.2 hp.2 hp.1 (by omega)) (by omega)⟩
  rw [hal, hpr] at hb
  have k1 : IntKind.i64.wrap (well + ill) = al := by rw [hal, IntKind.wrap_i64]; omega
  have k2 : IntKind.i64.wrap (al * part) = pr := by rw [hpr, IntKind.wrap_i64]; omega
  have k3 : IntKind.i64.wrap (ill * 100) = ill * 100 := by rw [IntKind.wrap_i64]; omega
  have HB := Aside0.mk hb
  clear h hal hpr hb halb hprb hw hi hp
  go_enter Try.func70, Try.ntmps70
  go_upto_region 2 with fail
  obtain ⟨gx, hgx⟩ : ∃ x, w.heap.size = x := ⟨_, rfl⟩
  have HX := Aside0.mk (show HoldsV 52 (w.alloc (.cells #[.int .i64 well, .int .i64 ill] 52)) gx [.int .i64 well, .int .i64 ill] by rw [← hgx]; exact heap_new _ _)
  obtain ⟨w1, hw1⟩ : ∃ x, w.alloc (.cells #[.int .i64 well, .int .i64 ill] 52) = x := ⟨_, rfl⟩
  rw [hw1] at H B HX ⊢
  rw [hgx]
  have c2 := H.out.cell 2
  have c3 := H.out.cell 3
  have x1 := HX.out.cell 1
  simp only [brV, List.getElem?_cons_zero, List.getElem?_cons_succ] at c2 c3 x1
  clear hw1 hgx
  cases e1 : decide (least ≤ al) <;> cases e2 : decide (pr ≤ ill * 100)
  all_goals go_quiet (fail)
  all_goals go_wp2_with fail
  all_goals go_ret
  all_goals exact ⟨by rw [← HB.out, e1, e2]; rfl, below_drewN B.out _⟩
/-- A shut one notes how a call went, and stays shut if not too much went ill. -/
theorem note_shut (br g gl B : Nat) (nb wt least part cool trials un tr ou wd now s0 s1 : Int) (tu tu2 : Nat) (q : Bool) (L L2 : List Int) (w : World) (h : HoldsV 115 w br (brV nb wt least part cool trials g 0 un tr ou)) (hW : WinAt w g gl B wd tu L) (hne : br ≠ g ∧ br ≠ gl)
    (NOTE : ∀ w, WinAt w g gl B wd tu L → Calls Try.prog 25 #[.pointer (some ⟨g, 0, none⟩), .int .i64 now, .bool q] w fun r w' => r = .returned (.tuple #[]) ∧ WinAt w' g gl B wd tu2 L2 ∧ OnlyIn [g, gl] w w')
    (CNT : ∀ w, WinAt w g gl B wd tu2 L2 → Calls Try.prog 27 #[.pointer (some ⟨g, 0, none⟩), .int .i64 now] w fun r w' => r = .returned (.agg #[.int .i64 s0, .int .i64 s1]) ∧ WinAt w' g gl B wd tu2 L2 ∧ OnlyIn [g, gl] w w')
    (hs0 : 0 ≤ s0 ∧ s0 ≤ 1000) (hs1 : 0 ≤ s1 ∧ s1 ≤ 1000) (hp : 0 ≤ part ∧ part ≤ 100) (hb : (decide (least ≤ s0 + s1) && decide ((s0 + s1) * part ≤ s1 * 100)) = false) :
    Calls Try.prog 44 #[.pointer (some ⟨br, 0, none⟩), .int .i64 now, .bool q] w fun r w' => r = .returned (.tuple #[]) ∧ HoldsV 115 w' br (brV nb wt least part cool trials g 0 un tr ou) ∧ WinAt w' g gl B wd tu2 L2 ∧ OnlyIn [g, gl] w w' := by
  have KS := Aside0.mk (state_shut br g nb wt least part cool trials un tr ou now w h)
  have KN := Aside0.mk NOTE
  have KC := Aside0.mk CNT
  have KW := Aside0.mk (fun (w : World) (h : HoldsV 115 w br (brV nb wt least part cool trials g 0 un tr ou)) => worse_at br g nb wt least part cool trials 0 un tr ou s0 s1 false w h hs0 hs1 hp hb)
  have H := Aside0.mk h
  have HW := Aside0.mk hW
  have HN := Aside0.mk hne
  clear NOTE CNT hs0 hs1 hp hb h hW hne
  go_enter Try.func44, Try.ntmps44
  go_wp2_with fail
  refine KS.out.mono ?_
  rintro e w1 ⟨rfl, n1, rfl⟩
  have H1 := Aside0.mk (H.out.drewN n1)
  have W1 := Aside0.mk (HW.out.below' (below_drewN (Below.refl _ _) n1))
  have O1 := Aside0.mk (OnlyIn.of_below (S := [g, gl]) (below_drewN (Below.refl w.heap.size w) n1))
  obtain ⟨w2, hw2⟩ : ∃ x, w.drewN n1 = x := ⟨_, rfl⟩
  rw [hw2] at H1 W1 O1 ⊢
  have c6 := H1.out.cell 6
  simp only [brV, List.getElem?_cons_zero, List.getElem?_cons_succ] at c6
  clear hw2
  go_wp2_with fail
  refine (KN.out _ W1.out).mono ?_
  rintro e w3 ⟨rfl, hw3, ho3⟩
  have H3 := Aside0.mk (show HoldsV 115 w3 br (brV nb wt least part cool trials g 0 un tr ou) from ho3.blk (by have := HN.out; simp; omega) H1.out)
  have W3 := Aside0.mk hw3
  have O3 := Aside0.mk (O1.out.trans ho3)
  have c7 := H3.out.cell 6
  simp only [brV, List.getElem?_cons_zero, List.getElem?_cons_succ] at c7
  clear hw3 ho3 c6 H1 W1 O1
  go_wp2_with fail
  refine (KC.out _ W3.out).mono ?_
  rintro e w4 ⟨rfl, hw4, ho4⟩
  have H4 := Aside0.mk (show HoldsV 115 w4 br (brV nb wt least part cool trials g 0 un tr ou) from ho4.blk (by have := HN.out; simp; omega) H3.out)
  have W4 := Aside0.mk hw4
  have O4 := Aside0.mk (O3.out.trans ho4)
  clear hw4 ho4 c7 H3 W3 O3
  go_wp2_with fail
  refine (KW.out _ H4.out).mono ?_
  rintro e w5 ⟨rfl, hb5⟩
  have H5 := Aside0.mk (H4.out.below' hb5)
  have W5 := Aside0.mk (W4.out.below' hb5)
  have O5 := Aside0.mk (O4.out.next hb5)
  clear hb5
  go_wp2_with fail
  go_end0
  exact ⟨rfl, H5.out, W5.out, O5.out⟩
end Go.Proofs.Ytbbaonaahokidaa.Breaker
