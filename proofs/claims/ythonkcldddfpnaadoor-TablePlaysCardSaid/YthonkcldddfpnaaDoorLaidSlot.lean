/- The two listed variables of slot: their cells; a start that holds them. -/
import Derived.Test.YthonkcldddfpnaaDoorLaid
namespace Go.Proofs.YthonkcldddfpnaaDoor.LaidSlot
open Go Go.ChangeShapes Go.WideShapes Go.ChangeAt Go.RowKit Go.Proofs.YthonkcldddfpnaaDoor.Laid
set_option maxRecDepth 100000

def laidS : List (String × DataW Unit) := [("cableway/slot.gen", Rows.laid_cableway_slot_gen), ("cableway/slot.state", Rows.laid_cableway_slot_state)]
theorem g0 : Tryd.prog.globalNamed "cableway/slot.gen" = some 12 := by kernel_rfl
theorem g1 : Tryd.prog.globalNamed "cableway/slot.state" = some 11 := by kernel_rfl
theorem t0 : (Tryd.prog.globals[12]?).map (·.type) = some 85 := by kernel_rfl
theorem t1 : (Tryd.prog.globals[11]?).map (·.type) = some 85 := by kernel_rfl
theorem door_met (os : Os) (args : Array Value) : laidMetH Tryd.prog laidS ((World.doorLaid Tryd.prog 400 os).forCall (fun _ _ => 0) ⟨#[], args, []⟩).memory :=
  laidMetH_of_parts3 (fuel := 8) (laidMet_of_run' 8 (by kernel_rfl) (by kernel_rfl)) (by kernel_rfl) (by kernel_rfl)
/-- What the listed variables hold. -/
def Cells (W : World) : Prop :=
    (W.cell? ⟨12, 0, none⟩ = some (.int .i64 0) ∧ W.cell? ⟨12, 1, none⟩ = some (.int .i64 24)) ∧ (W.cell? ⟨11, 0, none⟩ = some (.int .i64 24) ∧ W.cell? ⟨11, 1, none⟩ = some (.int .i64 2))
theorem of_laid {W : World} (h : laidMetH Tryd.prog laidS W) : Cells W := by
  rw [MakeChecks.laidMetH_plain _ _ _ (by kernel_rfl)] at h
  obtain ⟨ps, ⟨i0, u0, cs0, f0, p0, q0, hg0, ht0, hv0, hd0, ⟨i1, u1, cs1, f1, p1, q1, hg1, ht1, hv1, hd1, _, _⟩, _⟩, _, _⟩ := h
  obtain rfl := Option.some.inj (g0.symm.trans hg0)
  obtain rfl := Option.some.inj (g1.symm.trans hg1)
  obtain rfl := Option.some.inj (t0.symm.trans ht0)
  obtain rfl := Option.some.inj (t1.symm.trans ht1)
  have e0 := two_ints Tryd.underlying85 Tryd.underlying3 Tryd.underlying3 rfl rfl (by kernel_rfl) (by kernel_rfl) (by kernel_rfl) hd0
  have e1 := two_ints Tryd.underlying85 Tryd.underlying3 Tryd.underlying3 rfl rfl (by kernel_rfl) (by kernel_rfl) (by kernel_rfl) hd1
  have c0 := World.var?_cell hg0 hv0
  have c1 := World.var?_cell hg1 hv1
  obtain ⟨l0⟩ := cs0
  obtain ⟨l1⟩ := cs1
  simp only at e0 e1
  subst e0 e1
  exact ⟨⟨c0 0, c0 1⟩, c1 0, c1 1⟩
end Go.Proofs.YthonkcldddfpnaaDoor.LaidSlot
