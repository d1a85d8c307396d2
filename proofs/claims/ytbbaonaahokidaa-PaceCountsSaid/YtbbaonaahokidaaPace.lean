/- A pace: contracts of its functions, over its forty-four numbers in memory. -/
import Derived.Test.YtbbaonaahokidaaPPaceBandsx1
import Derived.Test.YtbbaonaahokidaaAid
import Derived.Test.YtbbaonaahokidaaBlk
import Derived.Test.YtbbaonaahokidaaState
import Derived.Test.YtbbaonaahokidaaPart
import Derived.WalkKit
import Derived.BigQuiet
import Derived.BigRegion
import Derived.RegionTactic
import Derived.KernelRfl
import Derived.Deep.RegionWith
import Derived.Deep.CutRange
import Derived.Deep.LoopGhost
namespace Go.Proofs.Ytbbaonaahokidaa.Pace
open Go.RowKit Go.Proofs.Ytbbaonaahokidaa.PPaceBands Go.Proofs.YtbbaonaahokidaaW.PrintWords Go.Proofs.YtbbaonaahokidaaW.PrintLast Go.Proofs.YtbbaonaahokidaaW.PrintMore Go.Proofs.Ytbbaonaahokidaa.Aid Go.Proofs.Ytbbaonaahokidaa.Quiet Go.Proofs.Ytbbaonaahokidaa.Blk Go.Proofs.Ytbbaonaahokidaa.State Go.Proofs.Ytbbaonaahokidaa.Part
set_option linter.unusedVariables false
attribute [local go_sem] max2_int min2_int max_two min_two

theorem len_at (g : Nat) (L : List Int) (hL : L.length = 44) (w : World) (h : Holds .i64 83 w g L) : Calls Try.prog 54 #[.pointer (some ⟨g, 0, none⟩)] w fun r w' => r = .returned (.int .i64 (L[42]?.getD 0)) ∧ ∃ m, w' = w.drewN m := by
  have c := h.cell (i := 42) (by omega)
  generalize (L[42]?.getD 0 : Int) = v at c ⊢
  clear h
  go_enter Try.func54, Try.ntmps54
  go_wp2_with fail
  go_ret
  first | exact ⟨rfl, _, rfl⟩ | exact ⟨rfl, 0, rfl⟩
theorem of_in (g : Nat) (L : List Int) (hL : L.length = 44) (j : Nat) (hj : j < 42) (w : World) (h : Holds .i64 83 w g L) : Calls Try.prog 53 #[.pointer (some ⟨g, 0, none⟩), .int .i64 (j : Int)] w fun r w' => r = .returned (.int .i64 (L[j]?.getD 0)) ∧ ∃ m, w' = w.drewN m := by
  have c := h.cell (i := j) (by omega)
  generalize (L[j]?.getD 0 : Int) = v at c ⊢
  have d1 : decide ((j : Int) < 0) = false := decide_eq_false (by omega)
  have d2 : decide ((41 : Int) < (j : Int)) = false := decide_eq_false (by omega)
  clear h
  go_enter Try.func53, Try.ntmps53
  go_wp2_with fail
  go_ret
  first | exact ⟨rfl, _, rfl⟩ | exact ⟨rfl, 0, rfl⟩
/-- A time is counted. -/
def putL (L : List Int) (b : Nat) (c : Int) : List Int := ((L.set b (L[b]?.getD 0 + 1)).set 42 (L[42]?.getD 0 + 1)).set 43 (mx (L[43]?.getD 0) c)
set_option maxHeartbeats 2000000 in
set_option maxRecDepth 100000 in
theorem put_at (g : Nat) (L : List Int) (hL : L.length = 44) (t c : Int) (b kk : Nat) (hb : b < 42) (w : World) (h : Holds .i64 83 w g L) (hc : ticks_Clamp.f t = some c) (hB : pace_Band.f kk c = some (b : Int))
    (hs0 : 0 ≤ (L[b]?.getD 0 : Int) ∧ (L[b]?.getD 0 : Int) ≤ 1000) (hs1 : 0 ≤ (L[42]?.getD 0 : Int) ∧ (L[42]?.getD 0 : Int) ≤ 1000) :
    Calls Try.prog 52 #[.pointer (some ⟨g, 0, none⟩), .int .i64 t] w fun r w' => r = .returned (.tuple #[]) ∧ Holds .i64 83 w' g (putL L b c) ∧ OnlyAt g w w' := by
  have HC := Aside0.mk (fun w => ticks_Clamp.calls t c w hc)
  have HB := Aside0.mk (fun w => pace_Band.calls kk c (b : Int) w hB)
  have H := Aside0.mk h
  obtain ⟨v0, hv0⟩ : ∃ v, (L[b]?.getD 0 : Int) = v := ⟨_, rfl⟩
  obtain ⟨v1, hv1⟩ : ∃ v, (L[42]?.getD 0 : Int) = v := ⟨_, rfl⟩
  obtain ⟨v2, hv2⟩ : ∃ v, (L[43]?.getD 0 : Int) = v := ⟨_, rfl⟩
  rw [hv0] at hs0
  rw [hv1] at hs1
  have hw0 : IntKind.i64.wrap (v0 + 1) = v0 + 1 := by rw [IntKind.wrap_i64]; omega
  obtain ⟨mv, hmv⟩ : ∃ m, (if v2 < c then c else v2) = m := ⟨_, rfl⟩
  have HV := Aside0.mk (And.intro hv0 (And.intro hv1 (And.intro hv2 (show mx v2 c = mv from hmv))))
  clear h hc hB hv0 hv1 hv2
  go_enter Try.func52, Try.ntmps52
  go_wp2_with fail
  refine (HC.out _).mono ?_
  rintro e w1 ⟨rfl, hb1⟩
  have H1 := Aside0.mk (H.out.below hb1 H.out.lt)
  have O1 := Aside0.mk (OnlyAt.of_below (g := g) hb1)
  clear hb1
  go_upto_region 2 with fail
  go_cut [] from 8 to 18 (fun wx => Holds .i64 83 wx g (L.set b (v0 + 1)) ∧ OnlyAt g w wx)
  case first =>
    go_region_with (first | (go_at_call 47; refine (HB.out _).mono ?_; rintro e w2 ⟨rfl, hb2⟩; have H2 := (show Holds .i64 83 w1.drew g L from H1.out).below hb2 H1.out.lt; have c0 := H2.cell (i := b) (by omega); rw [HV.out.1] at c0; have f0 := H2.free b; have H2A := Aside0.mk H2; have hb2A := Aside0.mk hb2; clear H2 hb2))
    all_goals go_wp2_with fail
    all_goals go_meet
    all_goals exact ⟨H2A.out.set b (v0 + 1), (O1.out.drew.trans (OnlyAt.of_below hb2A.out)).set b _⟩
  case rest =>
    obtain ⟨hH, hO⟩ := hcut
    rename_i wc
    have HH := Aside0.mk hH
    have HO := Aside0.mk hO
    have c42 : wc.cell? ⟨g, 42, none⟩ = some (.int .i64 v1) := by
      have := hH.cell (i := 42) (by simp; omega)
      rwa [List.getElem?_set_ne (by omega), HV.out.2.1] at this
    have c43 : wc.cell? ⟨g, 43, none⟩ = some (.int .i64 v2) := by
      have := hH.cell (i := 43) (by simp; omega)
      rwa [List.getElem?_set_ne (by omega), HV.out.2.2.1] at this
    have f42 := hH.free 42
    have f43 := hH.free 43
    clear hH hO
    go_wp2_with fail
    go_end0
    refine ⟨rfl, ?_, (HO.out.set 42 _).set 43 _⟩
    unfold putL
    rw [HV.out.1, HV.out.2.1, HV.out.2.2.1, HV.out.2.2.2]
    exact (HH.out.set 42 (v1 + 1)).set 43 mv
end Go.Proofs.Ytbbaonaahokidaa.Pace
