/- The law's own small trial of a slot's words. -/
import Derived.Test.YthonkcldddfpnaaDoorSlot2
namespace Go.Proofs.YthonkcldddfpnaaDoor.Slot
open Go.RowKit Go.Proofs.YthonkcldddfpnaaDoor.PSlotWords Go.Proofs.YthonkcldddfpnaaDoorW.PrintWords Go.Proofs.YthonkcldddfpnaaDoorW.PrintLast Go.Proofs.YthonkcldddfpnaaDoorW.PrintMore Go.Proofs.YthonkcldddfpnaaDoor.Aid Go.Proofs.YthonkcldddfpnaaDoor.Quiet Go.Proofs.YthonkcldddfpnaaDoor.SlotF Go.Proofs.YthonkcldddfpnaaDoor.LaidSlot
set_option linter.unusedVariables false
attribute [local go_sem] max2_int min2_int max_two min_two

set_option maxHeartbeats 1000000 in
set_option maxRecDepth 100000 in
theorem awake_calls (w : World) (gl : Cells w) : Calls Tryd.prog 24 #[] w fun r w' => r = .returned (.bool true) ∧ Below w.heap.size w w' := by
  have hz := Cells.size gl
  have GL := Aside0.mk gl
  have HB := Aside0.mk (Below.refl w.heap.size w)
  clear gl
  go_enter Tryd.func24, Tryd.ntmps24
  go_wp2_with fail
  refine (word_calls 0 0 0 0 _ (Cells.below GL.out HB.out hz) (by kernel_rfl) (by kernel_rfl) (by omega) (by omega)).mono ?_
  rintro e wn ⟨rfl, hb⟩
  have HB := Aside0.mk (HB.out.trans (hb.mono HB.out.size)); clear hb
  have hx := wordN_lt 0 0
  have hxs := wordN_st 0 0
  have hxg := wordN_gen 0 0
  generalize wordN 0 0 = x at hx hxs hxg ⊢
  have HX := Aside0.mk (And.intro hx (And.intro hxs hxg))
  clear hx hxs hxg
  go_wp2_with fail
  refine (open_pending x HX.out.1 5 5 _ (Cells.below GL.out HB.out hz) (by kernel_rfl) HX.out.2.1 (by rw [HX.out.2.2]; decide)).mono ?_
  rintro e wn ⟨rfl, hb⟩
  have HB := Aside0.mk (HB.out.trans (hb.mono HB.out.size)); clear hb
  have hy := wordN_lt (genN x + 1) 1
  have hys := wordN_st (genN x + 1) 1
  have hyg : genN (wordN (genN x + 1) 1) = 1 := by rw [wordN_gen, HX.out.2.2]; rfl
  generalize wordN (genN x + 1) 1 = y at hy hys hyg ⊢
  have hgy : genN y = 1 := hyg
  have hsy : stN y = 1 := hys
  have HY := Aside0.mk hy
  clear hy hys hyg
  have hl : liveB y 1 = true := decide_eq_true ⟨by rw [hgy]; rfl, Or.inl hsy⟩
  have HSY := Aside0.mk hsy
  clear hsy
  go_wp2_with (first
    | (go_at_call 25; refine (gen_calls y HY.out _ (Cells.below GL.out HB.out hz)).mono ?_; rintro e wn ⟨rfl, hb⟩; have HB := Aside0.mk (HB.out.trans (hb.mono HB.out.size)); clear hb)
    | (go_at_call 27; refine (live_calls y HY.out 1 _ (Cells.below GL.out HB.out hz)).mono ?_; rintro e wn ⟨rfl, hb⟩; have HB := Aside0.mk (HB.out.trans (hb.mono HB.out.size)); clear hb)
    | (go_at_call 29; refine (close_free y HY.out 5 5 _ (Cells.below GL.out HB.out hz) (by kernel_rfl) (Or.inl HSY.out) (by rw [hgy]; decide)).mono ?_; rintro e wn ⟨rfl, hb⟩; have HB := Aside0.mk (HB.out.trans (hb.mono HB.out.size)); clear hb)
    | (go_at_call 26; refine (st_calls _ (wordN_lt _ _) _ (Cells.below GL.out HB.out hz)).mono ?_; rintro e wn ⟨rfl, hb⟩; rw [wordN_st]; have HB := Aside0.mk (HB.out.trans (hb.mono HB.out.size)); clear hb))
  go_ret
  exact ⟨rfl, HB.out⟩
end Go.Proofs.YthonkcldddfpnaaDoor.Slot
