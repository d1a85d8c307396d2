/- A slot's words: contracts of the functions of slot. -/
import Derived.Test.YthonkcldddfpnaaDoorSlotF
import Derived.Test.YthonkcldddfpnaaDoorLaidSlot
import Derived.Test.YthonkcldddfpnaaDoorQuiet
import Derived.Test.YthonkcldddfpnaaDoorBlk
import Derived.WalkKit
import Derived.BigQuiet
import Derived.BigRegion
import Derived.RegionTactic
import Derived.KernelRfl
namespace Go.Proofs.YthonkcldddfpnaaDoor.Slot
open Go.RowKit Go.Proofs.YthonkcldddfpnaaDoor.PSlotWords Go.Proofs.YthonkcldddfpnaaDoorW.PrintWords Go.Proofs.YthonkcldddfpnaaDoorW.PrintLast Go.Proofs.YthonkcldddfpnaaDoorW.PrintMore Go.Proofs.YthonkcldddfpnaaDoor.Aid Go.Proofs.YthonkcldddfpnaaDoor.Quiet Go.Proofs.YthonkcldddfpnaaDoor.SlotF Go.Proofs.YthonkcldddfpnaaDoor.LaidSlot
set_option linter.unusedVariables false
attribute [local go_sem] max2_int min2_int max_two min_two

theorem Cells.below {w w' : World} {B : Nat} (h : Cells w) (hb : Below B w w') (hB : 12 < B) : Cells w' :=
  ⟨⟨(hb.cell (p := ⟨12, 0, none⟩) hB).trans h.1.1, (hb.cell (p := ⟨12, 1, none⟩) hB).trans h.1.2⟩, (hb.cell (p := ⟨11, 0, none⟩) (by show 11 < B; omega)).trans h.2.1, (hb.cell (p := ⟨11, 1, none⟩) (by show 11 < B; omega)).trans h.2.2⟩
theorem Cells.size {w : World} (h : Cells w) : 12 < w.heap.size := World.block_lt_of_cell? _ _ h.1.1

theorem gen_calls (x : Nat) (hx : x < 2 ^ 64) (w : World) (g : Cells w) : Calls Tryd.prog 25 #[.int .u64 (x : Int)] w fun r w' => r = .returned (.int .i64 (genN x : Int)) ∧ Below w.heap.size w w' := by
  obtain ⟨⟨a0, a1⟩, b0, b1⟩ := g
  have h1 := genN_lt x
  have HF := Aside0.mk (gen_f x hx)
  clear hx
  go_enter Tryd.func25, Tryd.ntmps25
  go_wp2_with (first | (go_at_call 53; refine (field_Field_Get.calls _ _ _ _ _ HF.out).mono ?_; rintro e w1 ⟨rfl, hb⟩))
  go_ret
  exact ⟨by first | rfl | (congr 2; simp; omega), hb⟩
theorem st_calls (x : Nat) (hx : x < 2 ^ 64) (w : World) (g : Cells w) : Calls Tryd.prog 26 #[.int .u64 (x : Int)] w fun r w' => r = .returned (.int .i64 (stN x : Int)) ∧ Below w.heap.size w w' := by
  obtain ⟨⟨a0, a1⟩, b0, b1⟩ := g
  have h1 := stN_lt x
  have HF := Aside0.mk (st_f x hx)
  clear hx
  go_enter Tryd.func26, Tryd.ntmps26
  go_wp2_with (first | (go_at_call 53; refine (field_Field_Get.calls _ _ _ _ _ HF.out).mono ?_; rintro e w1 ⟨rfl, hb⟩))
  go_ret
  exact ⟨by first | rfl | (congr 2; simp; omega), hb⟩
set_option maxHeartbeats 1000000 in
theorem word_calls (g s : Int) (gm sm : Nat) (w : World) (gl : Cells w) (hg : mx g 0 = gm) (hs : mx s 0 = sm) (hgb : gm < 2 ^ 63) (hsb : sm < 2 ^ 63) :
    Calls Tryd.prog 23 #[.int .i64 g, .int .i64 s] w fun r w' => r = .returned (.int .u64 (wordN gm sm : Int)) ∧ Below w.heap.size w w' := by
  have hz := Cells.size gl
  obtain ⟨x, hf1, hf2⟩ := word_f gm sm
  have HF1 := Aside0.mk hf1
  have HF2 := Aside0.mk hf2
  have GL := Aside0.mk gl
  have hg' : (if g < 0 then 0 else g) = (gm : Int) := hg
  have hs' : (if s < 0 then 0 else s) = (sm : Int) := hs
  have wg : IntKind.u64.wrap (gm : Int) = (gm : Int) := wrap_u64_in _ (by omega) (by omega)
  have ws : IntKind.u64.wrap (sm : Int) = (sm : Int) := wrap_u64_in _ (by omega) (by omega)
  clear hg hs hf1 hf2 gl hgb hsb
  go_enter Tryd.func23, Tryd.ntmps23
  go_wp2_with fail
  refine wp_region_below (by kernel_rfl) (by kernel_rfl) ?_
  repeat (go_big_quiet_step ((intro hw; first
    | (with_reducible rfl)
    | (go_at_call 48; first | exact q_below hw (field_Field_Put.calls _ _ _ _ _ _ HF1.out) | exact q_below hw (field_Field_Put.calls _ _ _ _ _ _ HF2.out))
    | (obtain ⟨⟨a0, a1⟩, b0, b1⟩ := Cells.below GL.out hw hz
       simp only [a0, a1, b0, b1, Result.andThen_ok]; go_simp; first | rfl | exact ⟨rfl, rfl⟩))))
  refine wpQuiet_nil ?_
  intro W2 hb2
  go_wp2_with fail
  go_ret
  exact ⟨rfl, hb2⟩
end Go.Proofs.YthonkcldddfpnaaDoor.Slot
