/- A pace's own small trial. -/
import Derived.Test.YtbbaonaahokidaaPace2
namespace Go.Proofs.Ytbbaonaahokidaa.Pace
open Go.RowKit Go.Proofs.Ytbbaonaahokidaa.PPaceBands Go.Proofs.YtbbaonaahokidaaW.PrintWords Go.Proofs.YtbbaonaahokidaaW.PrintLast Go.Proofs.YtbbaonaahokidaaW.PrintMore Go.Proofs.Ytbbaonaahokidaa.Aid Go.Proofs.Ytbbaonaahokidaa.Quiet Go.Proofs.Ytbbaonaahokidaa.Blk Go.Proofs.Ytbbaonaahokidaa.State Go.Proofs.Ytbbaonaahokidaa.Part
set_option linter.unusedVariables false
attribute [local go_sem] max2_int min2_int max_two min_two

def L2 : List Int := putL (putL (List.replicate 44 0) 3 5) 1 1
set_option maxRecDepth 100000 in
theorem L2_small : ∀ i, i < 44 → 0 ≤ (L2[i]?.getD 0 : Int) ∧ (L2[i]?.getD 0 : Int) ≤ 1000 := by decide
set_option maxRecDepth 100000 in
theorem L2_pre : ∀ i, i < 43 → 0 ≤ pre L2 i ∧ pre L2 i ≤ 100000 := by decide
set_option maxHeartbeats 2000000 in
set_option maxRecDepth 100000 in
theorem awake_calls (w : World) : Calls Try.prog 49 #[] w fun r w' => r = .returned (.bool true) ∧ Below w.heap.size w w' := by
  have PUT1 := Aside0.mk (fun (g : Nat) (w : World) (h : Holds .i64 83 w g (List.replicate 44 0)) => put_at g (List.replicate 44 0) rfl 5 5 3 10 (by omega) w h (by kernel_rfl) (by kernel_rfl) (by decide) (by decide))
  have PUT2 := Aside0.mk (fun (g : Nat) (w : World) (h : Holds .i64 83 w g (putL (List.replicate 44 0) 3 5)) => put_at g (putL (List.replicate 44 0) 3 5) rfl 1 1 1 10 (by omega) w h (by kernel_rfl) (by kernel_rfl) (by decide) (by decide))
  have BE1 := Aside0.mk (fun (g : Nat) (w : World) (h : Holds .i64 83 w g L2) => below_at g L2 rfl 50 50 1 2 1 1 w h (by kernel_rfl) (by decide) (by omega) (by kernel_rfl) (by omega) (by decide) (by decide) (fun i hi => L2_pre i (by omega)) (by kernel_rfl) (by omega) (by kernel_rfl) (fun i hi => L2_small i (by omega)))
  have BE2 := Aside0.mk (fun (g : Nat) (w : World) (h : Holds .i64 83 w g L2) => below_at g L2 rfl 100 100 2 8 5 3 w h (by kernel_rfl) (by decide) (by omega) (by kernel_rfl) (by omega) (by decide) (by decide) (fun i hi => L2_pre i (by omega)) (by kernel_rfl) (by omega) (by kernel_rfl) (fun i hi => L2_small i (by omega)))
  have LE := Aside0.mk (fun (g : Nat) (w : World) (h : Holds .i64 83 w g L2) => (show Calls Try.prog 54 #[.pointer (some ⟨g, 0, none⟩)] w fun r w' => r = .returned (.int .i64 2) ∧ ∃ m, w' = w.drewN m from len_at g L2 rfl w h))
  have OF := Aside0.mk (fun (g : Nat) (w : World) (h : Holds .i64 83 w g L2) => (show Calls Try.prog 53 #[.pointer (some ⟨g, 0, none⟩), .int .i64 3] w fun r w' => r = .returned (.int .i64 1) ∧ ∃ m, w' = w.drewN m from of_in g L2 rfl 3 (by omega) w h))
  have BA := Aside0.mk (fun w => pace_Band.calls 10 5 3 w (by kernel_rfl))
  have LO := Aside0.mk (fun w => (pace_Low.calls 3 4 w (by kernel_rfl)).mono (R' := fun r w' => r = .returned (.int .i64 4) ∧ ∃ m, w' = w.drewN m) fun _ _ ⟨a, b⟩ => ⟨a, b.out⟩)
  go_enter Try.func49, Try.ntmps49
  go_wp2_with fail
  refine (PUT1.out w.heap.size _ (heap_new _ _)).mono ?_
  rintro e w1 ⟨rfl, hH, hO⟩
  have H1 := Aside0.mk hH
  have B1 := Aside0.mk (hO.below (B := w.heap.size) ((Below.refl _ _).alloc (Nat.le_refl _) _) (Nat.le_refl _) (by simp))
  clear hH hO
  go_wp2_with fail
  refine (PUT2.out w.heap.size _ H1.out).mono ?_
  rintro e w2 ⟨rfl, hH, hO⟩
  have H2 := Aside0.mk (show Holds .i64 83 w2 w.heap.size L2 from hH)
  have B2 := Aside0.mk (hO.below B1.out (Nat.le_refl _) B1.out.size)
  clear hH hO H1 B1 PUT1 PUT2
  go_wp2_with fail
  refine (BA.out _).mono ?_
  rintro e w3 ⟨rfl, hb⟩
  have H3 := Aside0.mk (H2.out.below hb H2.out.lt)
  have B3 := Aside0.mk (B2.out.trans (hb.mono B2.out.size))
  clear hb H2 B2
  go_wp2_with (first
    | (go_at_call 51; refine (LO.out _).mono ?_; rintro e wn ⟨rfl, n1, rfl⟩)
    | (go_at_call 56; first | (with_reducible refine (BE1.out _ _ (H3.out.drewN _)).mono ?_; rintro e wn ⟨rfl, n2, rfl⟩) | (with_reducible refine (BE2.out _ _ (H3.out.drewN _)).mono ?_; rintro e wn ⟨rfl, n3, rfl⟩))
    | (go_at_call 54; with_reducible refine (LE.out _ _ (H3.out.drewN _)).mono ?_; rintro e wn ⟨rfl, n4, rfl⟩)
    | (go_at_call 53; with_reducible refine (OF.out _ _ (H3.out.drewN _)).mono ?_; rintro e wn ⟨rfl, n5, rfl⟩))
  go_ret
  exact ⟨rfl, below_drewN B3.out _⟩
end Go.Proofs.Ytbbaonaahokidaa.Pace
