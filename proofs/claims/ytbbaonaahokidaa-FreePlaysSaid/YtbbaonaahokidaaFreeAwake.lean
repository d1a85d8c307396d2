/- The law's own small trial of the free numbers; all of none. -/
import Derived.Test.YtbbaonaahokidaaFree3
namespace Go.Proofs.Ytbbaonaahokidaa.Free
open Go.RowKit Go.Proofs.Ytbbaonaahokidaa.PFreeSizes Go.Proofs.YtbbaonaahokidaaW.PrintWords Go.Proofs.YtbbaonaahokidaaW.PrintLast Go.Proofs.YtbbaonaahokidaaW.PrintMore Go.Proofs.Ytbbaonaahokidaa.Aid Go.Proofs.Ytbbaonaahokidaa.Quiet Go.Proofs.Ytbbaonaahokidaa.Blk Go.Proofs.Ytbbaonaahokidaa.State Go.Proofs.Ytbbaonaahokidaa.Vals
set_option linter.unusedVariables false
attribute [local go_sem] max2_int min2_int max_two min_two

theorem all_nil (w : World) : Calls Try.prog 18 #[.pointer none] w fun r w' => r = .returned (.slice none 0 0) ∧ ∃ m, w' = w.drewN m := by
  go_enter Try.func18, Try.ntmps18
  go_wp2_with fail
  refine (len_nil _).mono ?_
  rintro e w1 ⟨rfl, n1, rfl⟩
  go_wp2_with fail
  go_loopg [3, 7] 0 (fun g o i wx => g = 0 ∧ o = .slice none 0 0 ∧ i = .int .i64 0 ∧ ∃ n, wx = w.drewN n)
  case atStart => exact ⟨rfl, rfl, rfl, n1, rfl⟩
  case round =>
    obtain ⟨rfl, rfl, rfl, n, rfl⟩ := hrel
    go_wp2_with fail
    go_ret
    exact ⟨rfl, n, rfl⟩
set_option maxHeartbeats 2000000 in
theorem awake_calls (w : World) : Calls Try.prog 21 #[] w fun r w' => r = .returned (.bool true) ∧ Below w.heap.size w w' := by
  go_enter Try.func21, Try.ntmps21
  go_wp2_with fail
  refine (new_at 2 2 w (by kernel_rfl)).mono ?_
  rintro e w1 ⟨rfl, hB, gl, gh, hl, hh, hF⟩
  have hg : ∀ x ∈ [w.heap.size + 2, gl, gh], w.heap.size ≤ x := by simp; omega
  obtain ⟨F, hFe⟩ : ∃ F, w.heap.size + 2 = F := ⟨_, rfl⟩
  rw [hFe] at hF hg ⊢
  have B1 := Aside0.mk hB
  have F1 := Aside0.mk (show FreeAt w1 F gl gh 2 [0, 1] from hF)
  have HG := Aside0.mk hg
  clear hB hF hg hl hh hFe
  go_wp2_with fail
  refine (take_at F gl gh 2 0 [1] w1 F1.out).mono ?_
  rintro e w2 ⟨rfl, hF, hO⟩
  have B2 := Aside0.mk (hO.below B1.out HG.out B1.out.size)
  have F2 := Aside0.mk hF
  clear hF hO F1 B1
  go_wp2_with fail
  refine (len_at F gl gh 2 [1] w2 F2.out).mono ?_
  rintro e w3 ⟨rfl, n3, rfl⟩
  have B3 := Aside0.mk (below_drewN B2.out n3)
  have F3 := Aside0.mk (F2.out.drewN n3)
  clear F2 B2
  go_wp2_with fail
  refine (give_at F gl gh 2 [1] 0 _ F3.out (by omega) (by simp)).mono ?_
  rintro e w4 ⟨rfl, hF, hO⟩
  have B4 := Aside0.mk (hO.below B3.out HG.out B3.out.size)
  have F4 := Aside0.mk (show FreeAt w4 F gl gh 2 [1, 0] from hF)
  clear hF hO F3 B3
  go_wp2_with fail
  refine (give_not F gl gh 2 [1, 0] 0 _ F4.out (by simp)).mono ?_
  rintro e w5 ⟨rfl, n5, rfl⟩
  have B5 := Aside0.mk (below_drewN B4.out n5)
  have F5 := Aside0.mk (F4.out.drewN n5)
  clear F4 B4
  go_wp2_with fail
  refine (has_at F gl gh 2 [1, 0] 0 _ F5.out).mono ?_
  rintro e w6 ⟨rfl, n6, rfl⟩
  have B6 := Aside0.mk (below_drewN B5.out n6)
  rw [show inB 2 [1, 0] 0 = true from rfl]
  clear F5 B5
  go_wp2_with fail
  go_ret
  exact ⟨rfl, by have := B6.out; simpa using this⟩
end Go.Proofs.Ytbbaonaahokidaa.Free
