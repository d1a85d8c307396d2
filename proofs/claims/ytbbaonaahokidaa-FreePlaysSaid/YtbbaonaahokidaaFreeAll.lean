/- All of the free numbers. -/
import Derived.Test.YtbbaonaahokidaaFreeAwake
import Derived.Deep.RegionLaw
namespace Go.Proofs.Ytbbaonaahokidaa.Free
open Go.RowKit Go.Proofs.Ytbbaonaahokidaa.PFreeSizes Go.Proofs.YtbbaonaahokidaaW.PrintWords Go.Proofs.YtbbaonaahokidaaW.PrintLast Go.Proofs.YtbbaonaahokidaaW.PrintMore Go.Proofs.Ytbbaonaahokidaa.Aid Go.Proofs.Ytbbaonaahokidaa.Quiet Go.Proofs.Ytbbaonaahokidaa.Blk Go.Proofs.Ytbbaonaahokidaa.State Go.Proofs.Ytbbaonaahokidaa.Vals
set_option linter.unusedVariables false
attribute [local go_sem] max2_int min2_int max_two min_two

def natI (q : List Nat) : List Int := q.map Int.ofNat
set_option maxHeartbeats 2000000 in
set_option maxRecDepth 100000 in
theorem all_at (g gl gh k : Nat) (q : List Nat) (w : World) (h : FreeAt w g gl gh k q) :
    Calls Try.prog 18 #[.pointer (some ⟨g, 0, none⟩)] w fun r w' => ∃ v, r = .returned v ∧ w'.ownsRow w.heap.size 3 1 v q.length (nums .i64 (natI q)) ∧ Below w.heap.size w w' := by
  have hs := h.short
  have hle := h.le
  have H := Aside0.mk h
  clear h
  go_enter Try.func18, Try.ntmps18
  go_wp2_with fail
  refine (len_at g gl gh k q _ H.out).mono ?_
  rintro e w1 ⟨rfl, n1, rfl⟩
  go_wp2_with fail
  go_loopg [3, 7] q.length (fun gg o i wx => ∃ j : Nat, gg + j = q.length ∧ i = .int .i64 j ∧ wx.ownsRow w.heap.size 3 1 o (natI (q.take j)).length (nums .i64 (natI (q.take j))) ∧ Below w.heap.size w wx)
  case atStart => exact ⟨0, rfl, rfl, own_nil _ _ _ _, below_drewN (Below.refl _ _) _⟩
  case round =>
    obtain ⟨j, hj, rfl, hO, hB⟩ := hrel
    have HO := Aside0.mk hO
    have HB := Aside0.mk hB
    have HJ := Aside0.mk hj
    clear hO hB hj
    by_cases hlt : j < q.length
    · have d1 : decide ((j : Int) < (q.length : Int)) = true := decide_eq_true (by omega)
      obtain ⟨fr, h1, h2, L, h3, h4, h5⟩ := (H.out.below' HB.out).mem
      have c0 : wr.cell? ⟨g, 0, none⟩ = some (.int .i64 (k : Int)) := h1.cell 0
      have c1 : wr.cell? ⟨g, 1, none⟩ = some (.slice (some ⟨gl, 0, none⟩) k k) := h1.cell 1
      have c2 : wr.cell? ⟨g, 2, none⟩ = some (.int .i64 (fr : Int)) := h1.cell 2
      have hp : ((fr : Int) + (j : Int)).tmod (k : Int) = (((fr + j) % k : Nat) : Int) := by rw [← Int.natCast_add]; rfl
      have hpk : (fr + j) % k < k := Nat.mod_lt _ (by omega)
      have cl : wr.cell? ⟨gl, (fr + j) % k, none⟩ = some (.int .i64 (q[j] : Int)) := (h3.cell _).trans (by simp [ints, h5 j hlt])
      have d3 : ((k : Int) == 0) = false := by rw [beq_eq_false_iff_ne]; omega
      generalize (fr + j) % k = p at hp hpk cl
      have hfr : fr ≤ 1024 := by omega
      have hk0 : ¬ k = 0 := by omega
      have hwr : IntKind.i64.wrap ((fr : Int) + (j : Int)) = (fr : Int) + (j : Int) := by rw [IntKind.wrap_i64]; omega
      have e1 : natI (q.take j) ++ [(q[j] : Int)] = natI (q.take (j + 1)) := by
        unfold natI; rw [List.take_succ_eq_append_getElem hlt, List.map_append]; rfl
      have hl1 : (natI (q.take j)).length = j := by simp [natI]; omega
      have HE := Aside0.mk e1
      have HL1 := Aside0.mk hl1
      clear h1 h2 h3 h4 h5 e1 hl1
      go_upto_region 5 with fail
      have HC := Aside0.mk (show ∀ u ∈ [Value.int .i64 (q[j] : Int)], u.oneCell' = true by simp; rfl)
      generalize (q[j] : Int) = y at cl HC HE
      go_region_law (refine step_append_cells (w0 := w) (W := wr.drew) w.heap.size (by simp [Region.wanted]) (.tmp 10) (.tmp 28) 25 3 (.int .i64 0) 1 8 rfl Try.underlying25 info3 rfl (by decide) (by decide) u3 (natI (q.take j)).length (nums .i64 (natI (q.take j))) [.int .i64 y] (by simp [Act.eval]) (by simp [Act.eval]) rfl HC.out HO.out HB.out.drew HB.out.size (by have := HL1.out; omega) ?_; intro v1 w1 ho hb hg hat; clear hg hat)
      all_goals go_wp2
      all_goals go_roundg (q.length - (j + 1))
      all_goals first
        | (have := HJ.out; omega)
        | (refine ⟨j + 1, by have := HJ.out; omega, by go_num, ?_, hb⟩
           rw [← HE.out]
           simpa [nums] using ho)
    · have d1 : decide ((j : Int) < (q.length : Int)) = false := decide_eq_false (by omega)
      obtain rfl : j = q.length := by have := HJ.out; omega
      go_wp2_with fail
      go_ret
      refine ⟨u3, rfl, ?_, HB.out⟩
      have := HO.out
      rw [List.take_length] at this
      simpa [natI] using this
end Go.Proofs.Ytbbaonaahokidaa.Free
