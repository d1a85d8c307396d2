/- A window: something is noted; all is counted. -/
import Derived.Test.YtbbaonaahokidaaWindow2
namespace Go.Proofs.Ytbbaonaahokidaa.Window
open Go.RowKit Go.Proofs.Ytbbaonaahokidaa.PPaceBands Go.Proofs.YtbbaonaahokidaaW.PrintWords Go.Proofs.YtbbaonaahokidaaW.PrintLast Go.Proofs.YtbbaonaahokidaaW.PrintMore Go.Proofs.Ytbbaonaahokidaa.Aid Go.Proofs.Ytbbaonaahokidaa.Quiet Go.Proofs.Ytbbaonaahokidaa.Blk Go.Proofs.Ytbbaonaahokidaa.State Go.Proofs.Ytbbaonaahokidaa.Vals
set_option linter.unusedVariables false
attribute [local go_sem] max2_int min2_int max_two min_two

/-- Small numbers. -/
def Small (M : Int) (L : List Int) : Prop := ∀ i : Nat, (0 : Int) ≤ L[i]?.getD 0 ∧ L[i]?.getD 0 ≤ M
theorem Small.set {M : Int} {L : List Int} (h : Small M L) (j : Nat) (v : Int) (h0 : 0 ≤ v) (h1 : v ≤ M) : Small M (L.set j v) := fun i => by
  rw [List.getElem?_set]
  by_cases hij : j = i
  · subst hij
    by_cases hj : j < L.length
    · simp [hj]; exact ⟨h0, h1⟩
    · have := h j
      simp [hj]
      omega
  · rw [if_neg hij]; exact h i
theorem Small.clrs {M : Int} {L : List Int} (h : Small M L) (hM : 0 ≤ M) (B a : Nat) : ∀ k, Small M (Window.clrs B a k L)
  | 0 => h
  | k + 1 => ((Small.clrs h hM B a k).set _ 0 (Int.le_refl _) hM).set _ 0 (Int.le_refl _) hM
theorem Small.mono {M M' : Int} {L : List Int} (h : Small M L) (hM : M ≤ M') : Small M' L := fun i => by have := h i; omega
def bump (L : List Int) (i : Nat) : List Int := L.set i (L[i]?.getD 0 + 1)

theorem note_nil (now : Int) (q : Bool) (w : World) : Calls Try.prog 25 #[.pointer none, .int .i64 now, .bool q] w fun r w' => r = .returned (.tuple #[]) ∧ ∃ m, w' = w.drewN m := by
  go_enter Try.func25, Try.ntmps25
  go_wp2_with fail
  refine bodyPost_ret (results_none rfl _ _ _) rfl ?_
  first | exact ⟨rfl, _, rfl⟩ | exact ⟨rfl, 0, rfl⟩
theorem clear_nil (w : World) : Calls Try.prog 29 #[.pointer none] w fun r w' => r = .returned (.tuple #[]) ∧ ∃ m, w' = w.drewN m := by
  go_enter Try.func29, Try.ntmps29
  go_wp2_with fail
  go_end0
  first | exact ⟨rfl, _, rfl⟩ | exact ⟨rfl, 0, rfl⟩
set_option maxHeartbeats 2000000 in
set_option maxRecDepth 100000 in
theorem note_at (g gl B : Nat) (wd now cl : Int) (tu tn a0 t1 p : Nat) (q : Bool) (L L1 : List Int) (w : World) (h : WinAt w g gl B wd tu L) (hc : ticks_Clamp.f now = some cl) (hcl : 0 ≤ cl ∧ cl ≤ 1099511627776) (hto : cl.tdiv wd = (tn : Int)) (hle : tn ≤ 1099511627776)
    (ha : a0 = if tu + B ≤ tn then tn - B else tu) (ht1 : max tu tn = t1) (hp : t1 % B = p) (hL1 : clrs B a0 (tn - a0) L = L1) (hs : Small 1000 L1) :
    Calls Try.prog 25 #[.pointer (some ⟨g, 0, none⟩), .int .i64 now, .bool q] w fun r w' => r = .returned (.tuple #[]) ∧ WinAt w' g gl B wd t1 (bump L1 (p * 2 + (if q then 0 else 1))) ∧ OnlyIn [g, gl] w w' := by
  have HT := Aside0.mk (turns_at g gl B wd now cl tu tn a0 L w h hc hcl hto hle ha)
  rw [ht1, hL1] at HT
  have hB := h.hB
  have hpB : p < B := by rw [← hp]; exact Nat.mod_lt _ (by omega)
  have BK := Aside0.mk (fun w => fun h => bucket_at g gl B wd (t1 : Int) t1 p w h hB.1 hp)
  have HSM := Aside0.mk hs
  clear h hc hcl hto hle ha ht1 hp hL1 hs
  go_enter Try.func25, Try.ntmps25
  go_wp2_with fail
  refine HT.out.mono ?_
  rintro e w1 ⟨rfl, hW, hO⟩
  have HW := Aside0.mk hW
  have HO := Aside0.mk hO
  have c2 : w1.cell? ⟨g, 2, none⟩ = some (.int .i64 (t1 : Int)) := hW.box.cell 2
  have hl := hW.len
  have k0 := hW.cells.cell (i := p * 2) (by omega)
  have k1 := hW.cells.cell (i := p * 2 + 1) (by omega)
  have g0 := hW.cells.free (p * 2)
  have g1 := hW.cells.free (p * 2 + 1)
  obtain ⟨v0, hv0⟩ : ∃ v, L1[p * 2]?.getD 0 = v := ⟨_, rfl⟩
  obtain ⟨v1, hv1⟩ : ∃ v, L1[p * 2 + 1]?.getD 0 = v := ⟨_, rfl⟩
  have b0 := HSM.out (p * 2)
  have b1 := HSM.out (p * 2 + 1)
  rw [hv0] at k0 b0
  rw [hv1] at k1 b1
  have HV := Aside0.mk (And.intro hv0 hv1)
  clear hW hO hl hv0 hv1 HT
  cases q
  · have FIN := Aside0.mk (show ∀ m, WinAt ((w1.drewN m).setCell ⟨gl, p * 2 + 1, none⟩ (.int .i64 (v1 + 1))) g gl B wd t1 (bump L1 (p * 2 + 1)) ∧ OnlyIn [g, gl] w ((w1.drewN m).setCell ⟨gl, p * 2 + 1, none⟩ (.int .i64 (v1 + 1))) from fun m => by
      unfold bump
      rw [HV.out.2]
      exact ⟨(HW.out.below' (below_drewN (Below.refl _ _) m)).put _ _, (HO.out.next (below_drewN (Below.refl _ _) m)).set _ _ (by simp)⟩)
    go_wp2_with (first | (go_at_call 64; with_reducible refine (BK.out _ HW.out.box).mono ?_; rintro e w5 ⟨rfl, n5, rfl⟩))
    go_end0
    exact ⟨rfl, FIN.out _⟩
  · have FIN := Aside0.mk (show ∀ m, WinAt ((w1.drewN m).setCell ⟨gl, p * 2, none⟩ (.int .i64 (v0 + 1))) g gl B wd t1 (bump L1 (p * 2 + 0)) ∧ OnlyIn [g, gl] w ((w1.drewN m).setCell ⟨gl, p * 2, none⟩ (.int .i64 (v0 + 1))) from fun m => by
      unfold bump
      rw [Nat.add_zero, HV.out.1]
      exact ⟨(HW.out.below' (below_drewN (Below.refl _ _) m)).put _ _, (HO.out.next (below_drewN (Below.refl _ _) m)).set _ _ (by simp)⟩)
    go_wp2_with (first | (go_at_call 64; with_reducible refine (BK.out _ HW.out.box).mono ?_; rintro e w5 ⟨rfl, n5, rfl⟩))
    go_end0
    exact ⟨rfl, FIN.out _⟩
end Go.Proofs.Ytbbaonaahokidaa.Window
