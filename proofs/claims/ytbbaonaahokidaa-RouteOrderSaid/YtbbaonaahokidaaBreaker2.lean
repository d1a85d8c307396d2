/- A breaker: contracts of one that opens, and is half open. -/
import Derived.Test.YtbbaonaahokidaaBreaker
import Derived.Test.YtbbaonaahokidaaPBreakerHealsx1
namespace Go.Proofs.Ytbbaonaahokidaa.Breaker
open Go.RowKit Go.Proofs.YtbbaonaahokidaaW.PrintWords Go.Proofs.YtbbaonaahokidaaW.PrintLast Go.Proofs.YtbbaonaahokidaaW.PrintMore Go.Proofs.Ytbbaonaahokidaa.Aid Go.Proofs.Ytbbaonaahokidaa.Quiet Go.Proofs.Ytbbaonaahokidaa.Blk Go.Proofs.Ytbbaonaahokidaa.State Go.Proofs.Ytbbaonaahokidaa.Vals Go.Proofs.Ytbbaonaahokidaa.Window Go.Proofs.Ytbbaonaahokidaa.WinRef
set_option linter.unusedVariables false
set_option linter.unusedSimpArgs false
attribute [local go_sem] max2_int min2_int max_two min_two

/-- An open one, whose time has not come. -/
theorem state_open (br g : Nat) (nb wt least part cool trials un tr ou now : Int) (w : World) (h : HoldsV 115 w br (brV nb wt least part cool trials g 1 un tr ou)) (hp : PBreakerHeals.ticks_Past.f now un = some false) :
    Calls Try.prog 42 #[.pointer (some ⟨br, 0, none⟩), .int .i64 now] w fun r w' => r = .returned (.int .i64 1) ∧ HoldsV 115 w' br (brV nb wt least part cool trials g 1 un tr ou) ∧ OnlyIn [br] w w' := by
  have KP := Aside0.mk (fun w => PBreakerHeals.ticks_Past.calls now un false w hp)
  have H := Aside0.mk h
  have c7 := h.cell 7
  have c8 := h.cell 8
  simp only [brV, List.getElem?_cons_zero, List.getElem?_cons_succ] at c7 c8
  clear h hp
  go_enter Try.func42, Try.ntmps42
  go_wp2_with fail
  refine (KP.out _).mono ?_
  rintro e w1 ⟨rfl, hb⟩
  have H1 := Aside0.mk (H.out.below' hb)
  have O1 := Aside0.mk (OnlyIn.of_below (S := [br]) hb)
  have c7 := H1.out.cell 7
  simp only [brV, List.getElem?_cons_zero, List.getElem?_cons_succ] at c7
  clear hb
  go_wp2_with fail
  go_ret
  exact ⟨rfl, H1.out, O1.out⟩
/-- One whose time has come is half open. -/
theorem state_turn (br g : Nat) (nb wt least part cool trials un tr ou now : Int) (w : World) (h : HoldsV 115 w br (brV nb wt least part cool trials g 1 un tr ou)) (hp : PBreakerHeals.ticks_Past.f now un = some true) :
    Calls Try.prog 42 #[.pointer (some ⟨br, 0, none⟩), .int .i64 now] w fun r w' => r = .returned (.int .i64 2) ∧ HoldsV 115 w' br (brV nb wt least part cool trials g 2 un trials 0) ∧ OnlyIn [br] w w' := by
  have KP := Aside0.mk (fun w => PBreakerHeals.ticks_Past.calls now un true w hp)
  have H := Aside0.mk h
  have c7 := h.cell 7
  have c8 := h.cell 8
  simp only [brV, List.getElem?_cons_zero, List.getElem?_cons_succ] at c7 c8
  clear h hp
  go_enter Try.func42, Try.ntmps42
  go_wp2_with fail
  refine (KP.out _).mono ?_
  rintro e w1 ⟨rfl, hb⟩
  have H1 := Aside0.mk (H.out.below' hb)
  have O1 := Aside0.mk (OnlyIn.of_below (S := [br]) hb)
  have c5 := H1.out.cell 5
  have c7 := H1.out.cell 7
  have f7 := H1.out.free 7
  have f9 := H1.out.free 9
  have f10 := H1.out.free 10
  have HL := H1.out.lt
  have c9 := H1.out.cell 9
  have c10 := H1.out.cell 10
  simp only [brV, List.getElem?_cons_zero, List.getElem?_cons_succ] at c5 c7 c9 c10
  clear hb
  go_wp2_with fail
  go_ret
  exact ⟨rfl, ((H1.out.set 7 _).set 9 _).set 10 _, ((O1.out.set _ _ (by simp)).set _ _ (by simp)).set _ _ (by simp)⟩
/-- A half open one. -/
theorem state_half (br g : Nat) (nb wt least part cool trials un tr ou now : Int) (w : World) (h : HoldsV 115 w br (brV nb wt least part cool trials g 2 un tr ou)) :
    Calls Try.prog 42 #[.pointer (some ⟨br, 0, none⟩), .int .i64 now] w fun r w' => r = .returned (.int .i64 2) ∧ HoldsV 115 w' br (brV nb wt least part cool trials g 2 un tr ou) ∧ OnlyIn [br] w w' := by
  have H := Aside0.mk h
  have c7 := h.cell 7
  simp only [brV, List.getElem?_cons_zero, List.getElem?_cons_succ] at c7
  clear h
  go_enter Try.func42, Try.ntmps42
  go_wp2_with fail
  go_ret
  first | exact ⟨rfl, H.out, OnlyIn.refl _ _⟩ | exact ⟨rfl, H.out.drewN _, OnlyIn.of_below (below_drewN (Below.refl _ _) _)⟩
theorem state_nil (now : Int) (w : World) : Calls Try.prog 42 #[.pointer none, .int .i64 now] w fun r w' => r = .returned (.int .i64 0) ∧ Below w.heap.size w w' := by
  go_enter Try.func42, Try.ntmps42
  go_wp2_with fail
  go_ret
  exact ⟨rfl, by first | exact below_drewN (Below.refl _ _) _ | exact Below.refl _ _⟩
/-- None may, while its time has not come. -/
theorem may_open (br g : Nat) (nb wt least part cool trials un tr ou now : Int) (w : World) (h : HoldsV 115 w br (brV nb wt least part cool trials g 1 un tr ou)) (hp : PBreakerHeals.ticks_Past.f now un = some false) :
    Calls Try.prog 43 #[.pointer (some ⟨br, 0, none⟩), .int .i64 now] w fun r w' => r = .returned (.bool false) ∧ HoldsV 115 w' br (brV nb wt least part cool trials g 1 un tr ou) ∧ OnlyIn [br] w w' := by
  have KS := Aside0.mk (state_open br g nb wt least part cool trials un tr ou now w h hp)
  clear h hp
  go_enter Try.func43, Try.ntmps43
  go_wp2_with fail
  refine KS.out.mono ?_
  rintro e w1 ⟨rfl, hh, ho⟩
  have H1 := Aside0.mk hh
  have O1 := Aside0.mk ho
  clear hh ho
  go_wp2_with fail
  go_ret
  exact ⟨rfl, by first | exact H1.out.drewN _ | exact H1.out, by first | exact O1.out.next (below_drewN (Below.refl _ _) _) | exact O1.out⟩
/-- Half open: one may try, if one may still begin. -/
theorem may_of (st un2 tr ou : Int) (b : Bool) (tr2 ou2 : Int) (br g : Nat) (nb wt least part cool trials un tr0 ou0 now : Int) (w : World)
    (KS : Calls Try.prog 42 #[.pointer (some ⟨br, 0, none⟩), .int .i64 now] w fun r w' => r = .returned (.int .i64 2) ∧ HoldsV 115 w' br (brV nb wt least part cool trials g 2 un tr ou) ∧ OnlyIn [br] w w')
    (hb : (tr = 0 ∧ b = false ∧ tr2 = tr ∧ ou2 = ou) ∨ (1 ≤ tr ∧ tr ≤ 1000 ∧ 0 ≤ ou ∧ ou ≤ 1000 ∧ b = true ∧ tr2 = tr - 1 ∧ ou2 = ou + 1)) :
    Calls Try.prog 43 #[.pointer (some ⟨br, 0, none⟩), .int .i64 now] w fun r w' => r = .returned (.bool b) ∧ HoldsV 115 w' br (brV nb wt least part cool trials g 2 un tr2 ou2) ∧ OnlyIn [br] w w' := by
  have KS := Aside0.mk KS
  have HB := Aside0.mk hb
  clear hb
  go_enter Try.func43, Try.ntmps43
  go_wp2_with fail
  refine KS.out.mono ?_
  rintro e w1 ⟨rfl, hh, ho⟩
  have H1 := Aside0.mk hh
  have O1 := Aside0.mk ho
  have c9 := H1.out.cell 9
  have c10 := H1.out.cell 10
  have f9 := H1.out.free 9
  have f10 := H1.out.free 10
  simp only [brV, List.getElem?_cons_zero, List.getElem?_cons_succ] at c9 c10
  clear hh ho
  rcases HB.out with ⟨rfl, rfl, rfl, rfl⟩ | ⟨h1, h2, h3, h4, rfl, rfl, rfl⟩
  · clear HB
    go_wp2_with fail
    go_ret
    exact ⟨rfl, by first | exact H1.out.drewN _ | exact H1.out, by first | exact O1.out.next (below_drewN (Below.refl _ _) _) | exact O1.out⟩
  · have k1 : decide (tr = 0) = false := decide_eq_false (by omega)
    clear HB
    go_wp2_with fail
    go_ret
    exact ⟨rfl, (H1.out.set 9 _).set 10 _, (O1.out.set _ _ (by simp)).set _ _ (by simp)⟩
theorem may_nil (now : Int) (w : World) : Calls Try.prog 43 #[.pointer none, .int .i64 now] w fun r w' => r = .returned (.bool true) ∧ Below w.heap.size w w' := by
  have KS := Aside0.mk (state_nil now w)
  go_enter Try.func43, Try.ntmps43
  go_wp2_with fail
  refine KS.out.mono ?_
  rintro e w1 ⟨rfl, hb⟩
  have HB := Aside0.mk hb
  clear hb
  go_wp2_with fail
  go_ret
  exact ⟨rfl, by first | exact HB.out | exact below_drewN HB.out _⟩
/-- It opens. -/
theorem open_at (br g gl B : Nat) (nb wt least part cool trials st un tr ou wd now un2 : Int) (tu : Nat) (L : List Int) (w : World) (h : HoldsV 115 w br (brV nb wt least part cool trials g st un tr ou)) (hW : WinAt w g gl B wd tu L) (hne : br ≠ g ∧ br ≠ gl)
    (ha : PBreakerHeals.ticks_After.f now cool = some un2) :
    Calls Try.prog 71 #[.pointer (some ⟨br, 0, none⟩), .int .i64 now] w fun r w' => r = .returned (.tuple #[]) ∧ HoldsV 115 w' br (brV nb wt least part cool trials g 1 un2 0 0) ∧ WinAt w' g gl B wd tu (List.replicate (B * 2) 0) ∧ OnlyIn [br, g, gl] w w' := by
  have KA := Aside0.mk (fun w => PBreakerHeals.ticks_After.calls now cool un2 w ha)
  have KC := Aside0.mk (fun w h => clear_at g gl B wd tu L w h)
  have H := Aside0.mk h
  have HW := Aside0.mk hW
  have HN := Aside0.mk hne
  have c4 := h.cell 4
  simp only [brV, List.getElem?_cons_zero, List.getElem?_cons_succ] at c4
  clear h hW hne ha
  go_enter Try.func71, Try.ntmps71
  go_wp2_with fail
  refine (KA.out _).mono ?_
  rintro e w1 ⟨rfl, hb⟩
  have H1 := Aside0.mk (H.out.below' hb)
  have W1 := Aside0.mk (HW.out.below' hb)
  have O1 := Aside0.mk (OnlyIn.of_below (S := [br, g, gl]) hb)
  have c6 := H1.out.cell 6
  have f7 := H1.out.free 7
  have f8 := H1.out.free 8
  have f9 := H1.out.free 9
  have f10 := H1.out.free 10
  have c7 := H1.out.cell 7
  have c8 := H1.out.cell 8
  have c9 := H1.out.cell 9
  have c10 := H1.out.cell 10
  simp only [brV, List.getElem?_cons_zero, List.getElem?_cons_succ] at c6 c7 c8 c9 c10
  clear hb c4
  go_wp2_with fail
  have hW2 : ∀ (v1 v2 v3 v4 : Value), WinAt ((((w1.setCell ⟨br, 7, none⟩ v1).setCell ⟨br, 8, none⟩ v2).setCell ⟨br, 9, none⟩ v3).setCell ⟨br, 10, none⟩ v4) g gl B wd tu L := fun v1 v2 v3 v4 =>
    ⟨(((W1.out.box.other v1 HN.out.1.symm).other v2 HN.out.1.symm).other v3 HN.out.1.symm).other v4 HN.out.1.symm, set_other _ (set_other _ (set_other _ (set_other _ W1.out.cells HN.out.2.symm) HN.out.2.symm) HN.out.2.symm) HN.out.2.symm, W1.out.len, W1.out.ne, W1.out.hB, W1.out.hwd, W1.out.htu⟩
  refine (KC.out _ (hW2 _ _ _ _)).mono ?_
  clear hW2
  rintro e w2 ⟨rfl, hw2, ho2⟩
  have hH := (((H1.out.set 7 (.int .i64 1)).set 8 (.int .i64 un2)).set 9 (.int .i64 0)).set 10 (.int .i64 0)
  have F := Aside0.mk (show HoldsV 115 w2 br (brV nb wt least part cool trials g 1 un2 0 0) from ho2.blk (by have := HN.out; simp; omega) hH)
  have W2 := Aside0.mk hw2
  have O2 := Aside0.mk (show OnlyIn [br, g, gl] w w2 from ((((O1.out.set ⟨br, 7, none⟩ (.int .i64 1) (by simp)).set ⟨br, 8, none⟩ (.int .i64 un2) (by simp)).set ⟨br, 9, none⟩ (.int .i64 0) (by simp)).set ⟨br, 10, none⟩ (.int .i64 0) (by simp)).trans ⟨ho2.os, ho2.tape, ho2.output, ho2.size, fun k hk hn => ho2.block k hk (by simp at hn ⊢; omega)⟩)
  clear hH hw2 ho2 c6 c7 c8 c9 c10 f7 f8 f9 f10
  go_wp2_with fail
  go_end0
  exact ⟨rfl, F.out, W2.out, O2.out⟩
end Go.Proofs.Ytbbaonaahokidaa.Breaker
