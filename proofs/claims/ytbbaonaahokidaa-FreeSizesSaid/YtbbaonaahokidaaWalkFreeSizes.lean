/- So many numbers can be taken, at most the most; of none none: the walk of FreeSizes. -/
import Derived.Test.YtbbaonaahokidaaFreeAwake
namespace Go.Proofs.Ytbbaonaahokidaa.walkFreeSizes
open Go.RowKit Go.Proofs.Ytbbaonaahokidaa.PFreeSizes Go.Proofs.YtbbaonaahokidaaW.PrintWords Go.Proofs.YtbbaonaahokidaaW.PrintLast Go.Proofs.YtbbaonaahokidaaW.PrintMore Go.Proofs.Ytbbaonaahokidaa.Aid Go.Proofs.Ytbbaonaahokidaa.Quiet Go.Proofs.Ytbbaonaahokidaa.Blk Go.Proofs.Ytbbaonaahokidaa.State Go.Proofs.Ytbbaonaahokidaa.Vals Go.Proofs.Ytbbaonaahokidaa.Free
set_option linter.unusedVariables false
attribute [local go_sem] max2_int min2_int max_two min_two

set_option maxHeartbeats 2000000 in
theorem core (a0 a1 : Int) (k : Nat) (W : World) (hk : mn (mx a0 0) 1024 = (k : Int)) (b : Bool) (hb : inB k (List.range k) a1 = b) (hb2 : b = (decide (0 ≤ a1) && decide (a1 < (k : Int)))) :
    Calls Try.prog 4 #[.int .i64 a0, .int .i64 a1] W fun e W' => e = .returned (.bool true) ∧ Below W.heap.size W W' := by
  obtain ⟨x', hx⟩ : ∃ x', (if a0 < 0 then 0 else a0) = x' := ⟨_, rfl⟩
  have ha' : (if 1024 < x' then 1024 else x') = (k : Int) := by rw [← hk, ← hx]; rfl
  have HG1 := Aside0.mk (show a1 < 0 ∨ (k : Int) ≤ a1 ∨ a1.toNat ∈ List.range k by simp; omega)
  have HK := Aside0.mk hk
  have HBB := Aside0.mk hb
  clear hk hb
  go_enter Try.func4, Try.ntmps4
  go_wp2_with fail
  refine (new_at a0 k W HK.out).mono ?_
  rintro e w1 ⟨rfl, hB, gl, gh, hl, hh, hF⟩
  obtain ⟨F, hFe⟩ : ∃ F, W.heap.size + 2 = F := ⟨_, rfl⟩
  rw [hFe] at hF ⊢
  have HB := Aside0.mk hB
  have HF := Aside0.mk hF
  clear hB hF hl hh hFe
  go_wp2_with fail
  refine (take_nil _).mono ?_
  rintro e w2 ⟨rfl, n2, rfl⟩
  replace HB := Aside0.mk (below_drewN HB.out n2)
  replace HF := Aside0.mk (HF.out.drewN n2)
  go_wp2_with fail
  refine (awake_calls _).mono ?_
  rintro e w3 ⟨rfl, hb⟩
  replace HF := Aside0.mk (HF.out.below' hb)
  replace HB := Aside0.mk (HB.out.trans (hb.mono HB.out.size))
  clear hb
  have GN := Aside0.mk (fun w h => give_not F gl gh k (List.range k) a1 w h HG1.out)
  have HA := Aside0.mk (fun w (h : FreeAt w F gl gh k (List.range k)) => show Calls Try.prog 20 #[.pointer (some ⟨F, 0, none⟩), .int .i64 a1] w fun r w' => r = .returned (.bool b) ∧ ∃ m, w' = w.drewN m by rw [← HBB.out]; exact has_at F gl gh k (List.range k) a1 w h)
  have LN := Aside0.mk (fun w (h : FreeAt w F gl gh k (List.range k)) => show Calls Try.prog 19 #[.pointer (some ⟨F, 0, none⟩)] w fun r w' => r = .returned (.int .i64 (k : Int)) ∧ ∃ m, w' = w.drewN m by have := len_at F gl gh k (List.range k) w h; rwa [List.length_range] at this)
  clear HG1 HBB HK
  have hcs : (decide (0 ≤ a1) = true ∧ decide (a1 < (k : Int)) = true ∧ b = true) ∨ (decide (0 ≤ a1) = true ∧ decide (a1 < (k : Int)) = false ∧ b = false) ∨ (decide (0 ≤ a1) = false ∧ b = false) := by
    rw [hb2]
    by_cases h1 : 0 ≤ a1 <;> by_cases h2 : a1 < (k : Int) <;> simp [h1, h2]
  clear hb2
  rcases hcs with ⟨d1, d2, rfl⟩ | ⟨d1, d2, rfl⟩ | ⟨d1, rfl⟩
  all_goals go_wp2_with (first
      | (go_at_call 19; (first | with_reducible refine (len_nil _).mono ?_ | with_reducible refine (LN.out _ (HF.out.drewN _)).mono ?_ | with_reducible refine (LN.out _ HF.out).mono ?_); rintro e wn ⟨rfl, nn, rfl⟩)
      | (go_at_call 20; (first | with_reducible refine (has_nil _ _).mono ?_ | with_reducible refine (HA.out _ (HF.out.drewN _)).mono ?_ | with_reducible refine (HA.out _ HF.out).mono ?_); rintro e wn ⟨rfl, nn, rfl⟩)
      | (go_at_call 16; (first | with_reducible refine (give_nil _ _).mono ?_ | with_reducible refine (GN.out _ (HF.out.drewN _)).mono ?_ | with_reducible refine (GN.out _ HF.out).mono ?_); rintro e wn ⟨rfl, nn, rfl⟩)
      | (go_at_call 18; with_reducible refine (all_nil _).mono ?_; rintro e wn ⟨rfl, nn, rfl⟩))
  all_goals go_ret
  all_goals exact ⟨rfl, below_drewN HB.out _⟩

theorem walk (a0 : Int) (a1 : Int) (W : World) (w0 : (Lit.int .i64 a0).wf = true) (w1 : (Lit.int .i64 a1).wf = true) :
    Calls Try.prog 4 #[.int .i64 a0, .int .i64 a1] W fun e W' => e = .returned (.bool true) ∧ Below W.heap.size W W' := by
  have hk0 : 0 ≤ mn (mx a0 0) 1024 := by unfold mn mx; split <;> split <;> omega
  obtain ⟨k, hk⟩ := Int.eq_ofNat_of_zero_le hk0
  refine core a0 a1 k W hk _ rfl ?_
  unfold inB
  rw [Bool.eq_iff_iff]
  simp
  omega
end Go.Proofs.Ytbbaonaahokidaa.walkFreeSizes
