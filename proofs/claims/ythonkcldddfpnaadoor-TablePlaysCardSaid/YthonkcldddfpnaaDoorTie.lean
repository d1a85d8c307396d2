/-
  DERIVED. GIVEN WITH THE SEED: THE PROGRAM's TIES (one call each: nine closed facts by the kernel) AND EACH ROW's TIE, after the 31st guide's Derived/Test/Toyas{Tie, Card}.lean. No idea stands in it: it is a product of the set-up. Laid BY PROGRAM, IN A SANDBOX (cutbox-door.mjs). By AI agents, Wed Nov 11 2026. No macro, syntax, notation, axiom, sorry.
-/
import Derived.Test.YthonkcldddfpnaaDoorRows
import Derived.LaidByTextLater
import Derived.SevenTiedAt
import Derived.LaidSub
import Derived.LaidOnce
namespace Go.Proofs.YthonkcldddfpnaaDoor
open Go
set_option maxRecDepth 100000
theorem seatTie1 : Tryd.prog.laidByTextLater [("cableway/frame.kind", Rows.laid_cableway_frame_kind), ("cableway/frame.client", Rows.laid_cableway_frame_client), ("cableway/frame.service", Rows.laid_cableway_frame_service), ("cableway/frame.slot", Rows.laid_cableway_frame_slot), ("cableway/frame.try", Rows.laid_cableway_frame_try), ("cableway/frame.sure", Rows.laid_cableway_frame_sure), ("cableway/frame.stream", Rows.laid_cableway_frame_stream), ("cableway/frame.gen", Rows.laid_cableway_frame_gen), ("cableway/frame.call", Rows.laid_cableway_frame_call), ("cableway/frame.value", Rows.laid_cableway_frame_value), ("cableway/frame.seq", Rows.laid_cableway_frame_seq), ("cableway/slot.gen", Rows.laid_cableway_slot_gen), ("cableway/slot.state", Rows.laid_cableway_slot_state)] [.wider, .wider, .wider, .wider, .wider, .wider, .wider, .wider, .data, .wider, .data, .wider, .wider] true :=
  Program.laidByTextLater_by_one 74 8 3 (by kernel_rfl) (by kernel_rfl) (by kernel_rfl) (by kernel_rfl) (by kernel_rfl) (by kernel_rfl) (fun _ _ => by kernel_rfl)
theorem noOwnUnsafe : Tryd.pinned.checked.prog.headLifts.contains "ownunsafe" = false := by kernel_rfl
theorem tie : Tryd.prog.laidByTextLater [("cableway/frame.kind", Rows.laid_cableway_frame_kind), ("cableway/frame.client", Rows.laid_cableway_frame_client), ("cableway/frame.service", Rows.laid_cableway_frame_service), ("cableway/frame.slot", Rows.laid_cableway_frame_slot), ("cableway/frame.try", Rows.laid_cableway_frame_try), ("cableway/frame.sure", Rows.laid_cableway_frame_sure), ("cableway/frame.stream", Rows.laid_cableway_frame_stream), ("cableway/frame.gen", Rows.laid_cableway_frame_gen), ("cableway/frame.call", Rows.laid_cableway_frame_call), ("cableway/frame.value", Rows.laid_cableway_frame_value), ("cableway/frame.seq", Rows.laid_cableway_frame_seq)] [.wider, .wider, .wider, .wider, .wider, .wider, .wider, .wider, .data, .wider, .data] true :=
  Program.laidByTextLater.sub seatTie1 ["cableway/frame.kind", "cableway/frame.client", "cableway/frame.service", "cableway/frame.slot", "cableway/frame.try", "cableway/frame.sure", "cableway/frame.stream", "cableway/frame.gen", "cableway/frame.call", "cableway/frame.value", "cableway/frame.seq"] (by kernel_rfl) (by kernel_rfl)
theorem framePuts_row_tie : Rows.framePutsRow.laidByTextAt .later Tryd.pinned [.wider, .wider, .wider, .wider, .wider, .wider, .wider, .wider, .data, .wider, .data] true :=
  OpenClaim.laidByTextAt_later rfl rfl tie noOwnUnsafe
theorem frameGets_row_tie : Rows.frameGetsRow.laidByTextAt .later Tryd.pinned [.wider, .wider, .wider, .wider, .wider, .wider, .wider, .wider, .data, .wider, .data] true :=
  OpenClaim.laidByTextAt_later rfl rfl tie noOwnUnsafe
theorem frameTimes_row_tie : Rows.frameTimesRow.laidByTextAt .later Tryd.pinned [.wider, .wider, .wider, .wider, .wider, .wider, .wider, .wider, .data, .wider, .data] true :=
  OpenClaim.laidByTextAt_later rfl rfl tie noOwnUnsafe
theorem tie2 : Tryd.prog.laidByTextLater [("cableway/slot.gen", Rows.laid_cableway_slot_gen), ("cableway/slot.state", Rows.laid_cableway_slot_state)] [.wider, .wider] true :=
  Program.laidByTextLater.sub seatTie1 ["cableway/slot.gen", "cableway/slot.state"] (by kernel_rfl) (by kernel_rfl)
theorem slotWords_row_tie : Rows.slotWordsRow.laidByTextAt .later Tryd.pinned [.wider, .wider] true :=
  OpenClaim.laidByTextAt_later rfl rfl tie2 noOwnUnsafe
theorem slotTurns_row_tie : Rows.slotTurnsRow.laidByTextAt .later Tryd.pinned [.wider, .wider] true :=
  OpenClaim.laidByTextAt_later rfl rfl tie2 noOwnUnsafe
theorem slotStale_row_tie : Rows.slotStaleRow.laidByTextAt .later Tryd.pinned [.wider, .wider] true :=
  OpenClaim.laidByTextAt_later rfl rfl tie2 noOwnUnsafe
theorem settleStale_row_tie : Rows.settleStaleRow.laidByTextAt .later Tryd.pinned [.wider, .wider] true :=
  OpenClaim.laidByTextAt_later rfl rfl tie2 noOwnUnsafe
theorem settleLate_row_tie : Rows.settleLateRow.laidByTextAt .later Tryd.pinned [.wider, .wider] true :=
  OpenClaim.laidByTextAt_later rfl rfl tie2 noOwnUnsafe
theorem tablePlays_row_tie : Rows.tablePlaysRow.laidByTextAt .later Tryd.pinned [.wider, .wider] true :=
  OpenClaim.laidByTextAt_later rfl rfl tie2 noOwnUnsafe
theorem tableMay_row_tie : Rows.tableMayRow.laidByTextAt .later Tryd.pinned [.wider, .wider] true :=
  OpenClaim.laidByTextAt_later rfl rfl tie2 noOwnUnsafe
theorem framePutsUpto_row_tie : Rows.framePutsUptoRow.laidByTextAt .later Tryd.pinned [.wider, .wider, .wider, .wider, .wider, .wider, .wider, .wider, .data, .wider, .data] true :=
  OpenClaim.laidByTextAt_later rfl rfl tie noOwnUnsafe
theorem frameGetsUpto_row_tie : Rows.frameGetsUptoRow.laidByTextAt .later Tryd.pinned [.wider, .wider, .wider, .wider, .wider, .wider, .wider, .wider, .data, .wider, .data] true :=
  OpenClaim.laidByTextAt_later rfl rfl tie noOwnUnsafe
theorem frameTimesUpto_row_tie : Rows.frameTimesUptoRow.laidByTextAt .later Tryd.pinned [.wider, .wider, .wider, .wider, .wider, .wider, .wider, .wider, .data, .wider, .data] true :=
  OpenClaim.laidByTextAt_later rfl rfl tie noOwnUnsafe
theorem slotWordsUpto_row_tie : Rows.slotWordsUptoRow.laidByTextAt .later Tryd.pinned [.wider, .wider] true :=
  OpenClaim.laidByTextAt_later rfl rfl tie2 noOwnUnsafe
theorem slotTurnsUpto_row_tie : Rows.slotTurnsUptoRow.laidByTextAt .later Tryd.pinned [.wider, .wider] true :=
  OpenClaim.laidByTextAt_later rfl rfl tie2 noOwnUnsafe
theorem slotStaleUpto_row_tie : Rows.slotStaleUptoRow.laidByTextAt .later Tryd.pinned [.wider, .wider] true :=
  OpenClaim.laidByTextAt_later rfl rfl tie2 noOwnUnsafe
theorem settleStaleUpto_row_tie : Rows.settleStaleUptoRow.laidByTextAt .later Tryd.pinned [.wider, .wider] true :=
  OpenClaim.laidByTextAt_later rfl rfl tie2 noOwnUnsafe
theorem settleLateUpto_row_tie : Rows.settleLateUptoRow.laidByTextAt .later Tryd.pinned [.wider, .wider] true :=
  OpenClaim.laidByTextAt_later rfl rfl tie2 noOwnUnsafe
theorem tablePlaysUpto_row_tie : Rows.tablePlaysUptoRow.laidByTextAt .later Tryd.pinned [.wider, .wider] true :=
  OpenClaim.laidByTextAt_later rfl rfl tie2 noOwnUnsafe
theorem tableMayUpto_row_tie : Rows.tableMayUptoRow.laidByTextAt .later Tryd.pinned [.wider, .wider] true :=
  OpenClaim.laidByTextAt_later rfl rfl tie2 noOwnUnsafe
end Go.Proofs.YthonkcldddfpnaaDoor
