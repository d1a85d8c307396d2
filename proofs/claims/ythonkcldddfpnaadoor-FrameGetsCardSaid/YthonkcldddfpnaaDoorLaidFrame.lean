/- The eleven listed variables of frame: their cells; a start that holds them. -/
import Derived.Test.YthonkcldddfpnaaDoorLaid
namespace Go.Proofs.YthonkcldddfpnaaDoor.LaidFrame
open Go Go.ChangeShapes Go.WideShapes Go.ChangeAt Go.RowKit Go.Proofs.YthonkcldddfpnaaDoor.Laid
set_option maxRecDepth 100000

def laidS : List (String × DataW Unit) := [("cableway/frame.kind", Rows.laid_cableway_frame_kind), ("cableway/frame.client", Rows.laid_cableway_frame_client), ("cableway/frame.service", Rows.laid_cableway_frame_service), ("cableway/frame.slot", Rows.laid_cableway_frame_slot), ("cableway/frame.try", Rows.laid_cableway_frame_try), ("cableway/frame.sure", Rows.laid_cableway_frame_sure), ("cableway/frame.stream", Rows.laid_cableway_frame_stream), ("cableway/frame.gen", Rows.laid_cableway_frame_gen), ("cableway/frame.call", Rows.laid_cableway_frame_call), ("cableway/frame.value", Rows.laid_cableway_frame_value), ("cableway/frame.seq", Rows.laid_cableway_frame_seq)]
theorem g0 : Tryd.prog.globalNamed "cableway/frame.kind" = some 0 := by kernel_rfl
theorem t0 : (Tryd.prog.globals[0]?).map (·.type) = some 85 := by kernel_rfl
theorem g1 : Tryd.prog.globalNamed "cableway/frame.client" = some 1 := by kernel_rfl
theorem t1 : (Tryd.prog.globals[1]?).map (·.type) = some 85 := by kernel_rfl
theorem g2 : Tryd.prog.globalNamed "cableway/frame.service" = some 2 := by kernel_rfl
theorem t2 : (Tryd.prog.globals[2]?).map (·.type) = some 85 := by kernel_rfl
theorem g3 : Tryd.prog.globalNamed "cableway/frame.slot" = some 3 := by kernel_rfl
theorem t3 : (Tryd.prog.globals[3]?).map (·.type) = some 85 := by kernel_rfl
theorem g4 : Tryd.prog.globalNamed "cableway/frame.try" = some 4 := by kernel_rfl
theorem t4 : (Tryd.prog.globals[4]?).map (·.type) = some 85 := by kernel_rfl
theorem g5 : Tryd.prog.globalNamed "cableway/frame.sure" = some 5 := by kernel_rfl
theorem t5 : (Tryd.prog.globals[5]?).map (·.type) = some 85 := by kernel_rfl
theorem g6 : Tryd.prog.globalNamed "cableway/frame.stream" = some 6 := by kernel_rfl
theorem t6 : (Tryd.prog.globals[6]?).map (·.type) = some 85 := by kernel_rfl
theorem g7 : Tryd.prog.globalNamed "cableway/frame.gen" = some 7 := by kernel_rfl
theorem t7 : (Tryd.prog.globals[7]?).map (·.type) = some 85 := by kernel_rfl
theorem g8 : Tryd.prog.globalNamed "cableway/frame.call" = some 9 := by kernel_rfl
theorem t8 : (Tryd.prog.globals[9]?).map (·.type) = some 85 := by kernel_rfl
theorem g9 : Tryd.prog.globalNamed "cableway/frame.value" = some 8 := by kernel_rfl
theorem t9 : (Tryd.prog.globals[8]?).map (·.type) = some 85 := by kernel_rfl
theorem g10 : Tryd.prog.globalNamed "cableway/frame.seq" = some 10 := by kernel_rfl
theorem t10 : (Tryd.prog.globals[10]?).map (·.type) = some 85 := by kernel_rfl
theorem door_met (os : Os) (args : Array Value) : laidMetH Tryd.prog laidS ((World.doorLaid Tryd.prog 400 os).forCall (fun _ _ => 0) ⟨#[], args, []⟩).memory :=
  laidMetH_of_parts3 (fuel := 8) (laidMet_of_run' 8 (by kernel_rfl) (by kernel_rfl)) (by kernel_rfl) (by kernel_rfl)
/-- What the listed variables hold. -/
structure Cells (W : World) : Prop where
  c0 : W.cell? ⟨0, 0, none⟩ = some (.int .i64 0) ∧ W.cell? ⟨0, 1, none⟩ = some (.int .i64 4)
  c1 : W.cell? ⟨1, 0, none⟩ = some (.int .i64 4) ∧ W.cell? ⟨1, 1, none⟩ = some (.int .i64 4)
  c2 : W.cell? ⟨2, 0, none⟩ = some (.int .i64 8) ∧ W.cell? ⟨2, 1, none⟩ = some (.int .i64 4)
  c3 : W.cell? ⟨3, 0, none⟩ = some (.int .i64 12) ∧ W.cell? ⟨3, 1, none⟩ = some (.int .i64 8)
  c4 : W.cell? ⟨4, 0, none⟩ = some (.int .i64 20) ∧ W.cell? ⟨4, 1, none⟩ = some (.int .i64 4)
  c5 : W.cell? ⟨5, 0, none⟩ = some (.int .i64 24) ∧ W.cell? ⟨5, 1, none⟩ = some (.int .i64 1)
  c6 : W.cell? ⟨6, 0, none⟩ = some (.int .i64 25) ∧ W.cell? ⟨6, 1, none⟩ = some (.int .i64 1)
  c7 : W.cell? ⟨7, 0, none⟩ = some (.int .i64 26) ∧ W.cell? ⟨7, 1, none⟩ = some (.int .i64 24)
  c8 : W.cell? ⟨8, 0, none⟩ = some (.int .i64 32) ∧ W.cell? ⟨8, 1, none⟩ = some (.int .i64 32)
  c9 : W.cell? ⟨9, 0, none⟩ = some (.int .i64 0) ∧ W.cell? ⟨9, 1, none⟩ = some (.int .i64 32)
  c10 : W.cell? ⟨10, 0, none⟩ = some (.int .i64 0) ∧ W.cell? ⟨10, 1, none⟩ = some (.int .i64 16)
theorem of_laid {W : World} (h : laidMetH Tryd.prog laidS W) : Cells W := by
  rw [MakeChecks.laidMetH_plain _ _ _ (by kernel_rfl)] at h
  obtain ⟨ps, ⟨i0, u0, cs0, f0, p0, q0, hg0, ht0, hv0, hd0, ⟨i1, u1, cs1, f1, p1, q1, hg1, ht1, hv1, hd1, ⟨i2, u2, cs2, f2, p2, q2, hg2, ht2, hv2, hd2, ⟨i3, u3, cs3, f3, p3, q3, hg3, ht3, hv3, hd3, ⟨i4, u4, cs4, f4, p4, q4, hg4, ht4, hv4, hd4, ⟨i5, u5, cs5, f5, p5, q5, hg5, ht5, hv5, hd5, ⟨i6, u6, cs6, f6, p6, q6, hg6, ht6, hv6, hd6, ⟨i7, u7, cs7, f7, p7, q7, hg7, ht7, hv7, hd7, ⟨i8, u8, cs8, f8, p8, q8, hg8, ht8, hv8, hd8, ⟨i9, u9, cs9, f9, p9, q9, hg9, ht9, hv9, hd9, ⟨i10, u10, cs10, f10, p10, q10, hg10, ht10, hv10, hd10, _, _⟩, _⟩, _⟩, _⟩, _⟩, _⟩, _⟩, _⟩, _⟩, _⟩, _⟩, _, _⟩ := h
  obtain rfl := Option.some.inj (g0.symm.trans hg0)
  obtain rfl := Option.some.inj (t0.symm.trans ht0)
  obtain rfl := Option.some.inj (g1.symm.trans hg1)
  obtain rfl := Option.some.inj (t1.symm.trans ht1)
  obtain rfl := Option.some.inj (g2.symm.trans hg2)
  obtain rfl := Option.some.inj (t2.symm.trans ht2)
  obtain rfl := Option.some.inj (g3.symm.trans hg3)
  obtain rfl := Option.some.inj (t3.symm.trans ht3)
  obtain rfl := Option.some.inj (g4.symm.trans hg4)
  obtain rfl := Option.some.inj (t4.symm.trans ht4)
  obtain rfl := Option.some.inj (g5.symm.trans hg5)
  obtain rfl := Option.some.inj (t5.symm.trans ht5)
  obtain rfl := Option.some.inj (g6.symm.trans hg6)
  obtain rfl := Option.some.inj (t6.symm.trans ht6)
  obtain rfl := Option.some.inj (g7.symm.trans hg7)
  obtain rfl := Option.some.inj (t7.symm.trans ht7)
  obtain rfl := Option.some.inj (g8.symm.trans hg8)
  obtain rfl := Option.some.inj (t8.symm.trans ht8)
  obtain rfl := Option.some.inj (g9.symm.trans hg9)
  obtain rfl := Option.some.inj (t9.symm.trans ht9)
  obtain rfl := Option.some.inj (g10.symm.trans hg10)
  obtain rfl := Option.some.inj (t10.symm.trans ht10)
  have e0 := two_ints Tryd.underlying85 Tryd.underlying3 Tryd.underlying3 rfl rfl (by kernel_rfl) (by kernel_rfl) (by kernel_rfl) hd0
  have c0 := World.var?_cell hg0 hv0
  obtain ⟨l0⟩ := cs0
  have e1 := two_ints Tryd.underlying85 Tryd.underlying3 Tryd.underlying3 rfl rfl (by kernel_rfl) (by kernel_rfl) (by kernel_rfl) hd1
  have c1 := World.var?_cell hg1 hv1
  obtain ⟨l1⟩ := cs1
  have e2 := two_ints Tryd.underlying85 Tryd.underlying3 Tryd.underlying3 rfl rfl (by kernel_rfl) (by kernel_rfl) (by kernel_rfl) hd2
  have c2 := World.var?_cell hg2 hv2
  obtain ⟨l2⟩ := cs2
  have e3 := two_ints Tryd.underlying85 Tryd.underlying3 Tryd.underlying3 rfl rfl (by kernel_rfl) (by kernel_rfl) (by kernel_rfl) hd3
  have c3 := World.var?_cell hg3 hv3
  obtain ⟨l3⟩ := cs3
  have e4 := two_ints Tryd.underlying85 Tryd.underlying3 Tryd.underlying3 rfl rfl (by kernel_rfl) (by kernel_rfl) (by kernel_rfl) hd4
  have c4 := World.var?_cell hg4 hv4
  obtain ⟨l4⟩ := cs4
  have e5 := two_ints Tryd.underlying85 Tryd.underlying3 Tryd.underlying3 rfl rfl (by kernel_rfl) (by kernel_rfl) (by kernel_rfl) hd5
  have c5 := World.var?_cell hg5 hv5
  obtain ⟨l5⟩ := cs5
  have e6 := two_ints Tryd.underlying85 Tryd.underlying3 Tryd.underlying3 rfl rfl (by kernel_rfl) (by kernel_rfl) (by kernel_rfl) hd6
  have c6 := World.var?_cell hg6 hv6
  obtain ⟨l6⟩ := cs6
  have e7 := two_ints Tryd.underlying85 Tryd.underlying3 Tryd.underlying3 rfl rfl (by kernel_rfl) (by kernel_rfl) (by kernel_rfl) hd7
  have c7 := World.var?_cell hg7 hv7
  obtain ⟨l7⟩ := cs7
  have e8 := two_ints Tryd.underlying85 Tryd.underlying3 Tryd.underlying3 rfl rfl (by kernel_rfl) (by kernel_rfl) (by kernel_rfl) hd8
  have c8 := World.var?_cell hg8 hv8
  obtain ⟨l8⟩ := cs8
  have e9 := two_ints Tryd.underlying85 Tryd.underlying3 Tryd.underlying3 rfl rfl (by kernel_rfl) (by kernel_rfl) (by kernel_rfl) hd9
  have c9 := World.var?_cell hg9 hv9
  obtain ⟨l9⟩ := cs9
  have e10 := two_ints Tryd.underlying85 Tryd.underlying3 Tryd.underlying3 rfl rfl (by kernel_rfl) (by kernel_rfl) (by kernel_rfl) hd10
  have c10 := World.var?_cell hg10 hv10
  obtain ⟨l10⟩ := cs10
  simp only at e0 e1 e2 e3 e4 e5 e6 e7 e8 e9 e10
  subst e0 e1 e2 e3 e4 e5 e6 e7 e8 e9 e10
  exact ⟨⟨c0 0, c0 1⟩, ⟨c1 0, c1 1⟩, ⟨c2 0, c2 1⟩, ⟨c3 0, c3 1⟩, ⟨c4 0, c4 1⟩, ⟨c5 0, c5 1⟩, ⟨c6 0, c6 1⟩, ⟨c7 0, c7 1⟩, ⟨c9 0, c9 1⟩, ⟨c8 0, c8 1⟩, ⟨c10 0, c10 1⟩⟩
theorem Cells.below {w w' : World} {B : Nat} (h : Cells w) (hb : Below B w w') (hB : 10 < B) : Cells w' :=
  ⟨⟨(hb.cell (show 0 < B by omega)).trans h.c0.1, (hb.cell (show 0 < B by omega)).trans h.c0.2⟩, ⟨(hb.cell (show 1 < B by omega)).trans h.c1.1, (hb.cell (show 1 < B by omega)).trans h.c1.2⟩, ⟨(hb.cell (show 2 < B by omega)).trans h.c2.1, (hb.cell (show 2 < B by omega)).trans h.c2.2⟩, ⟨(hb.cell (show 3 < B by omega)).trans h.c3.1, (hb.cell (show 3 < B by omega)).trans h.c3.2⟩, ⟨(hb.cell (show 4 < B by omega)).trans h.c4.1, (hb.cell (show 4 < B by omega)).trans h.c4.2⟩, ⟨(hb.cell (show 5 < B by omega)).trans h.c5.1, (hb.cell (show 5 < B by omega)).trans h.c5.2⟩, ⟨(hb.cell (show 6 < B by omega)).trans h.c6.1, (hb.cell (show 6 < B by omega)).trans h.c6.2⟩, ⟨(hb.cell (show 7 < B by omega)).trans h.c7.1, (hb.cell (show 7 < B by omega)).trans h.c7.2⟩, ⟨(hb.cell (show 8 < B by omega)).trans h.c8.1, (hb.cell (show 8 < B by omega)).trans h.c8.2⟩, ⟨(hb.cell (show 9 < B by omega)).trans h.c9.1, (hb.cell (show 9 < B by omega)).trans h.c9.2⟩, ⟨(hb.cell (show 10 < B by omega)).trans h.c10.1, (hb.cell (show 10 < B by omega)).trans h.c10.2⟩⟩
theorem Cells.size {w : World} (h : Cells w) : 10 < w.heap.size := World.block_lt_of_cell? _ _ h.c10.1
end Go.Proofs.YthonkcldddfpnaaDoor.LaidFrame
