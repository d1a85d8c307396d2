/- A turn that ended is never live again, however often the slot is taken and given back behind it: the walk of SlotStale. -/
import Derived.Test.YthonkcldddfpnaaDoorSlot3
import Derived.Deep.CutRange
import Derived.Deep.LoopGhost
namespace Go.Proofs.YthonkcldddfpnaaDoor.walkSlotStale
open Go.RowKit Go.Proofs.YthonkcldddfpnaaDoor.Open Go.Proofs.YthonkcldddfpnaaDoor.PSlotWords Go.Proofs.YthonkcldddfpnaaDoorW.PrintWords Go.Proofs.YthonkcldddfpnaaDoorW.PrintLast Go.Proofs.YthonkcldddfpnaaDoorW.PrintMore Go.Proofs.YthonkcldddfpnaaDoor.Aid Go.Proofs.YthonkcldddfpnaaDoor.Quiet Go.Proofs.YthonkcldddfpnaaDoor.SlotF Go.Proofs.YthonkcldddfpnaaDoor.Slot Go.Proofs.YthonkcldddfpnaaDoor.Slot3
set_option linter.unusedVariables false
attribute [local go_sem] max2_int min2_int max_two min_two

set_option maxHeartbeats 4000000 in
set_option maxRecDepth 100000 in
theorem core (a0 a1 : Int) (k m : Nat) (W : World) (gl : LaidSlot.Cells W) (ha : Go.bits .and .i64 a0 65535 = (k : Int) - 1) (hk : 1 ≤ k ∧ k ≤ 65536) (hb1 : Go.bits .and .i64 a1 31 = (m : Int)) (hm : m ≤ 31) :
    Calls Tryd.prog 8 #[.int .i64 a0, .int .i64 a1] W fun e W' => e = .returned (.bool true) ∧ Below W.heap.size W W' := by
  have hz := Cells.size gl
  have GL := Aside0.mk gl
  have HB := Aside0.mk (Below.refl W.heap.size W)
  have hk1 : (k : Int) - 1 + 1 = k := by omega
  have HM := Aside0.mk (show mn (16777215 : Int) 16777215 = 16777215 by kernel_rfl)
  clear gl
  have hx := wordN_lt k 1
  have hxs : stN (wordN k 1) = 1 := wordN_st _ 1
  have hxg : genN (wordN k 1) = k := by rw [wordN_gen]; omega
  have WC := Aside0.mk (fun (w : World) (g : LaidSlot.Cells w) => word_calls k 1 k 1 w g (by unfold mx; rw [if_neg (by omega)]) (by kernel_rfl) (by omega) (by omega))
  generalize wordN k 1 = x0 at hx hxs hxg WC
  obtain ⟨x, hx2, hxg2, hxs2, CL0⟩ := close_some x0 hx 16777215 16777215 HM.out (Or.inl hxs)
  rw [hxg, if_pos (by omega)] at hxs2
  have CLX := Aside0.mk CL0
  have HX := Aside0.mk (And.intro hx2 (And.intro (hxg2.trans hxg) hxs2))
  clear hx hxs hxg hx2 hxg2 hxs2 CL0
  go_enter Tryd.func8, Tryd.ntmps8
  go_wp2_with (first | (go_at_call 23; with_reducible refine (WC.out _ (Cells.below GL.out HB.out hz)).mono ?_; rintro e wn ⟨rfl, hb⟩; replace HB := Aside0.mk (HB.out.trans (hb.mono HB.out.size)); clear hb) | (go_at_call 29; with_reducible refine (CLX.out _ (Cells.below GL.out HB.out hz)).mono ?_; rintro e wn ⟨rfl, hb⟩; replace HB := Aside0.mk (HB.out.trans (hb.mono HB.out.size)); clear hb))
  have HB0 := HB
  clear HB CLX WC
  go_loopg [6, 7] m (fun g u i wr => ∃ (j x : Nat), g + j = m ∧ i = .int .i64 j ∧ u = .int .u64 (x : Int) ∧ x < 2 ^ 64 ∧ genN x = k + j ∧ stN x = 0 ∧ Below W.heap.size W wr)
  case atStart => exact ⟨0, x, rfl, rfl, rfl, HX.out.1, HX.out.2.1, HX.out.2.2, HB0.out⟩
  case round =>
    clear HX HB0
    obtain ⟨j, x, hj, rfl, rfl, hx, hg, hs, hB⟩ := hrel
    have HB := Aside0.mk hB
    have HX := Aside0.mk hx
    have HJ := Aside0.mk hj
    have HG := Aside0.mk hg
    have HS := Aside0.mk hs
    clear hB hx hj hg hs
    by_cases hjm : j < m
    · have dj : decide ((j : Int) < (m : Int)) = true := decide_eq_true (by omega)
      obtain ⟨q, hq⟩ : ∃ q : Bool, (Go.bits .and .i64 (j : Int) 1 == 1) = q := ⟨_, rfl⟩
      obtain ⟨y, hy, hyg, hys, OP0⟩ := open_some q x HX.out 16777215 16777215 HM.out HS.out (by have := HG.out; omega)
      have hys' : stN y = 1 ∨ stN y = 2 := by rw [hys]; cases q <;> simp
      have hyg' : genN y = k + j + 1 := by have := HG.out; omega
      obtain ⟨v, hv, hvg, hvs, CL0⟩ := close_some y hy 16777215 16777215 HM.out hys'
      rw [hyg', if_pos (by omega)] at hvs
      have OP := Aside0.mk OP0
      have CL := Aside0.mk CL0
      have hl1 : liveB y ((k : Int) + (j : Int) + 1) = true := decide_eq_true ⟨by omega, hys'⟩
      have hl0 : liveB y (k : Int) = false := decide_eq_false (by omega)
      have hlv : liveB v (k : Int) = false := decide_eq_false (by omega)
      have HY := Aside0.mk hy
      have HV := Aside0.mk (And.intro hv (And.intro (hvg.trans hyg') hvs))
      clear OP0 CL0 hv hvg hvs hy hyg hyg' hys hys'
      go_wp2_with (first | (go_at_call 28; (with_reducible refine (OP.out _ (Cells.below GL.out HB.out hz)).mono ?_); rintro e wn ⟨rfl, hb⟩; replace HB := Aside0.mk (HB.out.trans (hb.mono HB.out.size)); clear hb) | (go_at_call 27; (first | (with_reducible refine (live_calls y HY.out _ _ (Cells.below GL.out HB.out hz)).mono ?_) | (with_reducible refine (live_calls v HV.out.1 _ _ (Cells.below GL.out HB.out hz)).mono ?_)); rintro e wn ⟨rfl, hb⟩; replace HB := Aside0.mk (HB.out.trans (hb.mono HB.out.size)); clear hb; first | rw [hl1] | rw [hl0] | rw [hlv]) | (go_at_call 29; (with_reducible refine (CL.out _ (Cells.below GL.out HB.out hz)).mono ?_); rintro e wn ⟨rfl, hb⟩; replace HB := Aside0.mk (HB.out.trans (hb.mono HB.out.size)); clear hb))
      go_roundg (m - (j + 1))
      case measure => have := HJ.out; omega
      case rel => exact ⟨j + 1, v, by omega, by go_num, rfl, HV.out.1, by have := HV.out.2.1; omega, HV.out.2.2, HB.out⟩
    · have dj : decide ((j : Int) < (m : Int)) = false := decide_eq_false (by omega)
      have hl0 : liveB x (k : Int) = false := decide_eq_false (by have := HS.out; omega)
      go_wp2_with (first | (go_at_call 24; (with_reducible refine (awake_calls _ (Cells.below GL.out HB.out hz)).mono ?_); rintro e wn ⟨rfl, hb⟩; replace HB := Aside0.mk (HB.out.trans (hb.mono HB.out.size)); clear hb) | (go_at_call 27; (with_reducible refine (live_calls x HX.out _ _ (Cells.below GL.out HB.out hz)).mono ?_); rintro e wn ⟨rfl, hb⟩; replace HB := Aside0.mk (HB.out.trans (hb.mono HB.out.size)); clear hb; rw [hl0]))
      go_ret
      exact ⟨rfl, HB.out⟩

theorem walk (a0 : Int) (a1 : Int) (W : World) (w0 : (Lit.int .i64 a0).wf = true) (w1 : (Lit.int .i64 a1).wf = true) (gl : LaidSlot.Cells W) :
    Calls Tryd.prog 8 #[.int .i64 a0, .int .i64 a1] W fun e W' => e = .returned (.bool true) ∧ Below W.heap.size W W' :=
  core a0 a1 ((a0 % 65536).toNat + 1) (a1 % 32).toNat W gl (by rw [show Go.bits .and .i64 a0 65535 = a0 % 65536 from and_mask .i64 16 (by decide) a0]; omega) (by omega) (by rw [i64_and31]; omega) (by omega)

end Go.Proofs.YthonkcldddfpnaaDoor.walkSlotStale
