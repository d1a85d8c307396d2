/- A window: all is counted. -/
import Derived.Test.YtbbaonaahokidaaWindow3
namespace Go.Proofs.Ytbbaonaahokidaa.Window
open Go.RowKit Go.Proofs.Ytbbaonaahokidaa.PPaceBands Go.Proofs.YtbbaonaahokidaaW.PrintWords Go.Proofs.YtbbaonaahokidaaW.PrintLast Go.Proofs.YtbbaonaahokidaaW.PrintMore Go.Proofs.Ytbbaonaahokidaa.Aid Go.Proofs.Ytbbaonaahokidaa.Quiet Go.Proofs.Ytbbaonaahokidaa.Blk Go.Proofs.Ytbbaonaahokidaa.State Go.Proofs.Ytbbaonaahokidaa.Vals
set_option linter.unusedVariables false
attribute [local go_sem] max2_int min2_int max_two min_two

/-- What happened in the first j buckets: well (0), ill (1). -/
def sumAt (L : List Int) (s : Nat) : Nat → Int
  | 0 => 0
  | j + 1 => sumAt L s j + L[j * 2 + s]?.getD 0
theorem sumAt_small {M : Int} {L : List Int} (h : Small M L) (hM : 0 ≤ M ∧ M ≤ 1000) (s : Nat) : ∀ j, 0 ≤ sumAt L s j ∧ sumAt L s j ≤ 1000 * j
  | 0 => by simp [sumAt]
  | j + 1 => by
    have h1 := sumAt_small h hM s j
    have h2 := h (j * 2 + s)
    simp only [sumAt]
    omega
theorem oi_setNew {S : List Nat} {a b : World} (h : OnlyIn S a b) (p : Addr) (v : Value) (hp : a.heap.size ≤ p.block) : OnlyIn S a (b.setCell p v) :=
  ⟨h.os, h.tape, h.output, by simpa [World.setCell] using h.size, fun k hk hg => (Below.heap_setCell b p v k (by omega)).trans (h.block k hk hg)⟩
theorem oi_alloc {S : List Nat} {a b : World} (h : OnlyIn S a b) (o : Obj) : OnlyIn S a (b.alloc o) := h.next ((Below.refl _ _).alloc (Nat.le_refl _) _)
theorem WinAt.setNew {w : World} {g gl B : Nat} {wd : Int} {tu : Nat} {L : List Int} (h : WinAt w g gl B wd tu L) (p : Addr) (v : Value) (h1 : g ≠ p.block) (h2 : gl ≠ p.block) : WinAt (w.setCell p v) g gl B wd tu L :=
  ⟨h.box.other _ h1, set_other _ h.cells h2, h.len, h.ne, h.hB, h.hwd, h.htu⟩
theorem counts_nil (now : Int) (w : World) : Calls Try.prog 27 #[.pointer none, .int .i64 now] w fun r w' => r = .returned (.agg #[.int .i64 0, .int .i64 0]) ∧ Below w.heap.size w w' := by
  have hu52 := Try.underlying52
  go_enter Try.func27, Try.ntmps27
  go_wp2_with fail
  refine bodyPost_ret (results_cell_row rfl _ _ w.heap.size 52 #[.int .i64 0, .int .i64 0] (0, 0) _ rfl (heap_old (heap_new _ _)) Try.underlying52 rfl (by kernel_rfl)) rfl ?_
  exact ⟨rfl, ((Below.refl _ _).alloc (Nat.le_refl _) _).alloc (by simp) _⟩
set_option maxHeartbeats 2000000 in
set_option maxRecDepth 100000 in
theorem counts_at (g gl B : Nat) (wd now cl : Int) (tu tn a0 t1 : Nat) (L L1 : List Int) (w : World) (h : WinAt w g gl B wd tu L) (hc : ticks_Clamp.f now = some cl) (hcl : 0 ≤ cl ∧ cl ≤ 1099511627776) (hto : cl.tdiv wd = (tn : Int)) (hle : tn ≤ 1099511627776)
    (ha : a0 = if tu + B ≤ tn then tn - B else tu) (ht1 : max tu tn = t1) (hL1 : clrs B a0 (tn - a0) L = L1) (hs : Small 1000 L1) :
    Calls Try.prog 27 #[.pointer (some ⟨g, 0, none⟩), .int .i64 now] w fun r w' => r = .returned (.agg #[.int .i64 (sumAt L1 0 B), .int .i64 (sumAt L1 1 B)]) ∧ WinAt w' g gl B wd t1 L1 ∧ OnlyIn [g, gl] w w' := by
  have hu52 := Try.underlying52
  have HT := Aside0.mk (fun w (h : WinAt w g gl B wd tu L) => turns_at g gl B wd now cl tu tn a0 L w h hc hcl hto hle ha)
  rw [ht1, hL1] at HT
  have H := Aside0.mk h
  have hB := h.hB
  have HSM := Aside0.mk hs
  clear h hc hcl hto hle ha ht1 hL1 hs
  obtain ⟨o, ho⟩ : ∃ o, w.heap.size + 1 = o := ⟨_, rfl⟩
  have HO0 := Aside0.mk ho
  go_enter Try.func27, Try.ntmps27
  go_wp2_with fail
  have H1 := Aside0.mk ((H.out.below' ((Below.refl _ _).alloc (Nat.le_refl _) (.cells #[.int .i64 0, .int .i64 0] 52))).below' ((Below.refl _ _).alloc (Nat.le_refl _) (.cells #[.int .i64 0, .int .i64 0] 52)))
  refine (HT.out _ H1.out).mono ?_
  rintro e w1 ⟨rfl, hW, hO⟩
  have hg1 := H.out.box.lt
  have hg2 := H.out.cells.lt
  have HLT := Aside0.mk (And.intro hg1 hg2)
  have HOUT := Aside0.mk (show Holds .i64 52 w1 (w.heap.size + 1) [0, 0] from hO.blk (by simp; omega) (heap_new' _ (by simp)))
  have HRES := Aside0.mk (show w1.heap[w.heap.size]? = some (.cells #[.int .i64 0, .int .i64 0] 52 (0, 0)) from hO.blk (by simp; omega) (heap_old (heap_new _ _)))
  have HON := Aside0.mk (show OnlyIn [g, gl] w w1 from (oi_alloc (oi_alloc (OnlyIn.refl _ _) _) _).trans ⟨hO.os, hO.tape, hO.output, hO.size, hO.block⟩)
  have HW := Aside0.mk hW
  have c1 : w1.cell? ⟨g, 1, none⟩ = some (.slice (some ⟨gl, 0, none⟩) B B) := hW.box.cell 1
  clear hW hO hg1 hg2 H1 HT
  go_wp2_with fail
  have HGE := Aside0.mk (show w.heap.size < o by omega)
  rw [ho] at *
  go_loopg [19] B (fun gg i wx => ∃ j : Nat, gg + j = B ∧ i = .int .i64 (j : Int) ∧ Holds .i64 52 wx o [sumAt L1 0 j, sumAt L1 1 j] ∧ wx.heap[w.heap.size]? = some (.cells #[.int .i64 0, .int .i64 0] 52 (0, 0)) ∧ WinAt wx g gl B wd t1 L1 ∧ OnlyIn [g, gl] w wx)
  case atStart => exact ⟨0, rfl, rfl, HOUT.out, HRES.out, HW.out, HON.out⟩
  case round =>
    clear HOUT HRES HW HON c1
    obtain ⟨j, hj, rfl, hout, hres, hW, hO⟩ := hrel
    have HJ := Aside0.mk hj
    have HOUT := Aside0.mk hout
    have HRES := Aside0.mk hres
    have HW := Aside0.mk hW
    have HON := Aside0.mk hO
    have o0 : wr.cell? ⟨o, 0, none⟩ = some (.int .i64 (sumAt L1 0 j)) := hout.cell (i := 0) (by simp)
    have o1 : wr.cell? ⟨o, 1, none⟩ = some (.int .i64 (sumAt L1 1 j)) := hout.cell (i := 1) (by simp)
    have of0 := hout.free 0
    have of1 := hout.free 1
    have olt := hout.lt
    obtain ⟨s0, hs0⟩ : ∃ x, sumAt L1 0 j = x := ⟨_, rfl⟩
    obtain ⟨s1, hs1⟩ : ∃ x, sumAt L1 1 j = x := ⟨_, rfl⟩
    have sb0 := sumAt_small HSM.out (by omega) 0 j
    have sb1 := sumAt_small HSM.out (by omega) 1 j
    rw [hs0] at o0 sb0
    rw [hs1] at o1 sb1
    have HS01 := Aside0.mk (And.intro hs0 hs1)
    clear hs0 hs1
    by_cases hlt : j < B
    · have d1 : decide ((j : Int) < (B : Int)) = true := decide_eq_true (by omega)
      have hl := hW.len
      have k0 := hW.cells.cell (i := j * 2) (by omega)
      have k1 := hW.cells.cell (i := j * 2 + 1) (by omega)
      obtain ⟨v0, hv0⟩ : ∃ v, L1[j * 2]?.getD 0 = v := ⟨_, rfl⟩
      obtain ⟨v1, hv1⟩ : ∃ v, L1[j * 2 + 1]?.getD 0 = v := ⟨_, rfl⟩
      have b0 := HSM.out (j * 2)
      have b1 := HSM.out (j * 2 + 1)
      rw [hv0] at k0 b0
      rw [hv1] at k1 b1
      have HV := Aside0.mk (And.intro hv0 hv1)
      have hgl := hW.cells.lt
      clear hj hout hres hW hO hl hv0 hv1
      go_wp2_with fail
      go_roundg (B - (j + 1))
      case measure => have := HJ.out; omega
      case rel =>
        have e0 : sumAt L1 0 (j + 1) = s0 + v0 := by
          show sumAt L1 0 j + L1[j * 2 + 0]?.getD 0 = _
          rw [Nat.add_zero, HS01.out.1, HV.out.1]
        have e1 : sumAt L1 1 (j + 1) = s1 + v1 := by
          show sumAt L1 1 j + L1[j * 2 + 1]?.getD 0 = _
          rw [HS01.out.2, HV.out.2]
        have ho := HGE.out
        have hl := HLT.out
        refine ⟨j + 1, by have := HJ.out; omega, by go_num, by rw [e0, e1]; exact heap_old ((HOUT.out.set 0 (s0 + v0)).set 1 (s1 + v1)), heap_old (set_other _ (set_other _ HRES.out (by show w.heap.size ≠ o; omega)) (by show w.heap.size ≠ o; omega)), ?_, oi_alloc (oi_setNew (oi_setNew HON.out _ _ (by show w.heap.size ≤ o; omega)) _ _ (by show w.heap.size ≤ o; omega)) _⟩
        exact ((HW.out.setNew _ _ (by show g ≠ o; omega) (by show gl ≠ o; omega)).setNew _ _ (by show g ≠ o; omega) (by show gl ≠ o; omega)).below' ((Below.refl _ _).alloc (Nat.le_refl _) _)
    · have d1 : decide ((j : Int) < (B : Int)) = false := decide_eq_false (by omega)
      obtain rfl : j = B := by omega
      have HR := Aside0.mk (show Holds .i64 52 wr w.heap.size [0, 0] from hres)
      have q0 := HR.out.cell (i := 0) (by simp)
      have q1 := HR.out.cell (i := 1) (by simp)
      simp only [List.getElem?_cons_zero, List.getElem?_cons_succ, Option.getD_some] at q0 q1
      have qf0 := HR.out.free 0
      have qf1 := HR.out.free 1
      clear hj hout hres hW hO
      go_wp2_with fail
      refine bodyPost_ret (results_cell_row rfl _ _ w.heap.size 52 #[.int .i64 s0, .int .i64 s1] (0, 0) _ rfl ((HR.out.set 0 s0).set 1 s1) Try.underlying52 rfl (by kernel_rfl)) rfl ?_
      refine ⟨by rw [HS01.out.1, HS01.out.2], (HW.out.setNew _ _ (by have := HLT.out; show g ≠ w.heap.size; omega) (by have := HLT.out; show gl ≠ w.heap.size; omega)).setNew _ _ (by have := HLT.out; show g ≠ w.heap.size; omega) (by have := HLT.out; show gl ≠ w.heap.size; omega), oi_setNew (oi_setNew HON.out _ _ (Nat.le_refl _)) _ _ (Nat.le_refl _)⟩
end Go.Proofs.Ytbbaonaahokidaa.Window
