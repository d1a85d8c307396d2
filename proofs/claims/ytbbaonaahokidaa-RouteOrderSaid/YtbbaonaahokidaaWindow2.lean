/- A window's turns: buckets begin up to a time. -/
import Derived.Test.YtbbaonaahokidaaWindow
namespace Go.Proofs.Ytbbaonaahokidaa.Window
open Go.RowKit Go.Proofs.Ytbbaonaahokidaa.PPaceBands Go.Proofs.YtbbaonaahokidaaW.PrintWords Go.Proofs.YtbbaonaahokidaaW.PrintLast Go.Proofs.YtbbaonaahokidaaW.PrintMore Go.Proofs.Ytbbaonaahokidaa.Aid Go.Proofs.Ytbbaonaahokidaa.Quiet Go.Proofs.Ytbbaonaahokidaa.Blk Go.Proofs.Ytbbaonaahokidaa.State Go.Proofs.Ytbbaonaahokidaa.Vals
set_option linter.unusedVariables false
attribute [local go_sem] max2_int min2_int max_two min_two

theorem bucket_at (g gl B : Nat) (wd tu0 : Int) (tu : Nat) (p : Nat) (w : World) (h : HoldsV 107 w g (winv wd gl B tu0)) (hB : 1 ≤ B) (hp : tu % B = p) :
    Calls Try.prog 64 #[.pointer (some ⟨g, 0, none⟩), .int .i64 (tu : Int)] w fun r w' => r = .returned (.pointer (some ⟨gl, p * 2, none⟩)) ∧ ∃ m, w' = w.drewN m := by
  have c1 : w.cell? ⟨g, 1, none⟩ = some (.slice (some ⟨gl, 0, none⟩) B B) := h.cell 1
  have d1 : ¬ B = 0 := by omega
  have hpB : p < B := by rw [← hp]; exact Nat.mod_lt _ (by omega)
  have hm : (tu : Int).tmod (B : Int) = (p : Int) := by rw [← hp]; rfl
  clear h hp
  go_enter Try.func64, Try.ntmps64
  go_wp2_with fail
  go_quiet (fail)
  go_wp2_with fail
  go_ret
  first | exact ⟨rfl, _, rfl⟩ | exact ⟨rfl, 0, rfl⟩ | exact ⟨by simp [Addr.add], _, rfl⟩
def zero2 (L : List Int) (p : Nat) : List Int := (L.set (p * 2) 0).set (p * 2 + 1) 0
/-- The buckets of turns a + 1 to a + k are empty. -/
def clrs (B a : Nat) : Nat → List Int → List Int
  | 0, L => L
  | k + 1, L => zero2 (clrs B a k L) ((a + k + 1) % B)
theorem clrs_length (B a k : Nat) (L : List Int) : (clrs B a k L).length = L.length := by
  induction k with
  | zero => rfl
  | succ k ih => simp [clrs, zero2, ih]
structure WinAt (w : World) (g gl B : Nat) (wd : Int) (tu : Nat) (L : List Int) : Prop where
  box : HoldsV 107 w g (winv wd gl B (tu : Int))
  cells : Holds .i64 52 w gl L
  len : L.length = B * 2
  ne : g ≠ gl
  hB : 1 ≤ B ∧ B ≤ 16
  hwd : 1 ≤ wd ∧ wd ≤ 1099511627776
  htu : tu ≤ 1099511627776
theorem WinAt.below' {w w' : World} {g gl B : Nat} {wd : Int} {tu : Nat} {L : List Int} (h : WinAt w g gl B wd tu L) (hb : Below w.heap.size w w') : WinAt w' g gl B wd tu L :=
  ⟨h.box.below' hb, h.cells.below hb h.cells.lt, h.len, h.ne, h.hB, h.hwd, h.htu⟩
theorem WinAt.turn {w : World} {g gl B : Nat} {wd : Int} {tu : Nat} {L : List Int} (h : WinAt w g gl B wd tu L) (tu' : Nat) (ht : tu' ≤ 1099511627776) : WinAt (w.setCell ⟨g, 2, none⟩ (.int .i64 (tu' : Int))) g gl B wd tu' L :=
  ⟨h.box.set 2 _, (set_other _ h.cells h.ne.symm), h.len, h.ne, h.hB, h.hwd, ht⟩
theorem WinAt.put {w : World} {g gl B : Nat} {wd : Int} {tu : Nat} {L : List Int} (h : WinAt w g gl B wd tu L) (j : Nat) (v : Int) : WinAt (w.setCell ⟨gl, j, none⟩ (.int .i64 v)) g gl B wd tu (L.set j v) :=
  ⟨h.box.other _ h.ne, h.cells.set j v, by simp [h.len], h.ne, h.hB, h.hwd, h.htu⟩
set_option maxHeartbeats 2000000 in
set_option maxRecDepth 100000 in
theorem turns_at (g gl B : Nat) (wd now cl : Int) (tu tn a0 : Nat) (L : List Int) (w : World) (h : WinAt w g gl B wd tu L) (hc : ticks_Clamp.f now = some cl) (hcl : 0 ≤ cl ∧ cl ≤ 1099511627776) (hto : cl.tdiv wd = (tn : Int)) (hle : tn ≤ 1099511627776)
    (ha : a0 = if tu + B ≤ tn then tn - B else tu) :
    Calls Try.prog 63 #[.pointer (some ⟨g, 0, none⟩), .int .i64 now] w fun r w' => r = .returned (.tuple #[]) ∧ WinAt w' g gl B wd (max tu tn) (clrs B a0 (tn - a0) L) ∧ OnlyIn [g, gl] w w' := by
  have HC := Aside0.mk (fun w => ticks_Clamp.calls now cl w hc)
  have H := Aside0.mk h
  have c0 : w.cell? ⟨g, 0, none⟩ = some (.int .i64 wd) := h.box.cell 0
  have hz := h.box.lt
  have hw0 : ¬ wd = 0 := by have := h.hwd; omega
  have HA := Aside0.mk ha
  have hB := h.hB
  have htu := h.htu
  clear h hc ha
  go_enter Try.func63, Try.ntmps63
  go_wp2_with fail
  refine wp_region_below (by kernel_rfl) (by kernel_rfl) ?_
  repeat (go_big_quiet_step ((intro hw; first
    | (with_reducible rfl)
    | (go_at_call 62; with_reducible exact q_below hw (HC.out _))
    | (have e0 := (hw.cell (p := ⟨g, 0, none⟩) hz).trans c0
       simp only [e0, Result.andThen_ok]; go_simp; first | rfl | exact ⟨rfl, rfl⟩))))
  refine wpQuiet_nil ?_
  intro W2 hb2
  have H2 := Aside0.mk (H.out.below' hb2)
  have O2 := Aside0.mk (OnlyIn.of_below (S := [g, gl]) hb2)
  have c1 : W2.cell? ⟨g, 1, none⟩ = some (.slice (some ⟨gl, 0, none⟩) B B) := H2.out.box.cell 1
  have c2 : W2.cell? ⟨g, 2, none⟩ = some (.int .i64 (tu : Int)) := H2.out.box.cell 2
  have f2 := H2.out.box.free 2
  clear hb2 c0 hz
  obtain ⟨b, hbb⟩ : ∃ b, decide ((B : Int) ≤ (tn : Int) - (tu : Int)) = b := ⟨_, rfl⟩
  have HBB := Aside0.mk hbb
  go_wp2_with fail
  go_quiet (fail)
  clear hbb
  go_upto_if 23 with fail
  go_cut [] from 24 (fun wx => WinAt wx g gl B wd a0 L ∧ OnlyIn [g, gl] w wx)
  case first =>
    have e1 : b = true → (tn : Int) - (B : Int) = ((tn - B : Nat) : Int) := fun h => by have := HBB.out; rw [h] at this; have := of_decide_eq_true this; omega
    cases b
    · have hj : ¬ tu + B ≤ tn := by have := of_decide_eq_false HBB.out; omega
      have FIN := Aside0.mk (show ∀ m, WinAt (W2.drewN m) g gl B wd a0 L ∧ OnlyIn [g, gl] w (W2.drewN m) from fun m => by
        rw [HA.out, if_neg hj]
        exact ⟨H2.out.below' (below_drewN (Below.refl _ _) m), O2.out.next (below_drewN (Below.refl _ _) m)⟩)
      clear hj e1
      go_wp2_with fail
      go_meet
      first | exact FIN.out _ | exact FIN.out 0
    · have hj : tu + B ≤ tn := by have := of_decide_eq_true HBB.out; omega
      have FIN := Aside0.mk (show ∀ m m', WinAt (((W2.drewN m).setCell ⟨g, 2, none⟩ (.int .i64 ((tn - B : Nat) : Int))).drewN m') g gl B wd a0 L ∧ OnlyIn [g, gl] w (((W2.drewN m).setCell ⟨g, 2, none⟩ (.int .i64 ((tn - B : Nat) : Int))).drewN m') from fun m m' => by
        rw [HA.out, if_pos hj]
        exact ⟨((H2.out.below' (below_drewN (Below.refl _ _) m)).turn (tn - B) (by omega)).below' (below_drewN (Below.refl _ _) m'), ((O2.out.next (below_drewN (Below.refl _ _) m)).set _ _ (by simp)).next (below_drewN (Below.refl _ _) m')⟩)
      replace e1 := e1 rfl
      clear hj
      go_wp2_with fail
      go_meet
      first | exact FIN.out _ 0 | exact FIN.out 0 _ | exact FIN.out 0 0
  case rest =>
    obtain ⟨hW, hO⟩ := hcut
    have HW := Aside0.mk hW
    have HO := Aside0.mk hO
    clear hW hO H2 O2 c1 c2 f2
    go_wp2_with fail
    go_loopg [] (tn - a0) (fun gg wx => ∃ k, gg + k = tn - a0 ∧ WinAt wx g gl B wd (a0 + k) (clrs B a0 k L) ∧ OnlyIn [g, gl] w wx)
    case atStart => exact ⟨0, rfl, HW.out, HO.out⟩
    case round =>
      clear HW HO
      obtain ⟨k, hk, hW, hO⟩ := hrel
      have HW := Aside0.mk hW
      have HO := Aside0.mk hO
      have HK := Aside0.mk hk
      have c2 : wr.cell? ⟨g, 2, none⟩ = some (.int .i64 ((a0 + k : Nat) : Int)) := hW.box.cell 2
      have f2 := hW.box.free 2
      have htk := hW.htu
      clear hW hO hk
      obtain ⟨q, hq⟩ : ∃ q, a0 + k = q := ⟨_, rfl⟩
      have HQ := Aside0.mk hq
      rw [hq] at c2 htk
      by_cases hlt : q < tn
      · have d1 : decide ((q : Int) < (tn : Int)) = true := decide_eq_true (by omega)
        obtain ⟨q1, hq1e⟩ : ∃ q1, q + 1 = q1 := ⟨_, rfl⟩
        have hq1 : (q : Int) + 1 = (q1 : Int) := by omega
        have HQ1 := Aside0.mk hq1e
        obtain ⟨p, hp⟩ : ∃ p, q1 % B = p := ⟨_, rfl⟩
        have HP := Aside0.mk hp
        have HT := Aside0.mk ((hq ▸ HW.out : WinAt wr g gl B wd q (clrs B a0 k L)).turn q1 (by omega))
        have BK := Aside0.mk (fun w => fun h => bucket_at g gl B wd (q1 : Int) q1 p w h hB.1 hp)
        have hpB : p < B := by rw [← hp]; exact Nat.mod_lt _ (by omega)
        have hlen : (clrs B a0 k L).length = B * 2 := HT.out.len
        obtain ⟨z0, k0⟩ : ∃ z, (wr.setCell ⟨g, 2, none⟩ (.int .i64 (q1 : Int))).cell? ⟨gl, p * 2, none⟩ = some (.int .i64 z) := ⟨_, HT.out.cells.cell (by omega)⟩
        obtain ⟨z1, k1⟩ : ∃ z, (wr.setCell ⟨g, 2, none⟩ (.int .i64 (q1 : Int))).cell? ⟨gl, p * 2 + 1, none⟩ = some (.int .i64 z) := ⟨_, HT.out.cells.cell (by omega)⟩
        have g0 := HT.out.cells.free (p * 2)
        have g1 := HT.out.cells.free (p * 2 + 1)
        have FIN := Aside0.mk (show ∀ m m', WinAt (((((wr.setCell ⟨g, 2, none⟩ (.int .i64 (q1 : Int))).drewN m).setCell ⟨gl, p * 2, none⟩ (.int .i64 0)).setCell ⟨gl, p * 2 + 1, none⟩ (.int .i64 0)).drewN m') g gl B wd (a0 + (k + 1)) (clrs B a0 (k + 1) L) ∧
            OnlyIn [g, gl] w (((((wr.setCell ⟨g, 2, none⟩ (.int .i64 (q1 : Int))).drewN m).setCell ⟨gl, p * 2, none⟩ (.int .i64 0)).setCell ⟨gl, p * 2 + 1, none⟩ (.int .i64 0)).drewN m') from fun m m' => by
          have e1 : a0 + (k + 1) = q1 := by have := HQ.out; have := HQ1.out; omega
          have e2 : clrs B a0 (k + 1) L = ((clrs B a0 k L).set (p * 2) 0).set (p * 2 + 1) 0 := by
            show zero2 _ ((a0 + k + 1) % B) = _
            rw [HQ.out, HQ1.out, HP.out]
            rfl
          rw [e1, e2]
          exact ⟨(((HT.out.below' (below_drewN (Below.refl _ _) m)).put _ _).put _ _).below' (below_drewN (Below.refl _ _) m'), (((((HO.out.set _ _ (by simp)).next (below_drewN (Below.refl _ _) m)).set _ _ (by simp)).set _ _ (by simp)).next (below_drewN (Below.refl _ _) m'))⟩)
        have hne1 := HT.out.ne
        have hne2 := HT.out.ne.symm
        clear hp hq hlen hq1e
        go_wp2_with (first | (go_at_call 64; with_reducible refine (BK.out _ HT.out.box).mono ?_; rintro e w5 ⟨rfl, n5, rfl⟩))
        go_roundg (tn - a0 - (k + 1))
        case measure => have := HK.out; have := HQ.out; omega
        case rel => exact ⟨k + 1, by have := HK.out; have := HQ.out; omega, by first | exact FIN.out _ 0 | exact FIN.out 0 0⟩
      · have d1 : decide ((q : Int) < (tn : Int)) = false := decide_eq_false (by omega)
        have FIN := Aside0.mk (show WinAt wr g gl B wd (max tu tn) (clrs B a0 (tn - a0) L) by
          have h1 := HK.out
          have h2 := HQ.out
          have h3 := HA.out
          have hk1 : k = tn - a0 := by omega
          have hm : max tu tn = a0 + k := by
            split at h3 <;> omega
          rw [hm, ← hk1]
          exact HW.out)
        clear hq
        go_wp2_with fail
        go_end0
        exact ⟨rfl, FIN.out, HO.out⟩
end Go.Proofs.Ytbbaonaahokidaa.Window
