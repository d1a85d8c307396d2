/-
  DERIVED. GIVEN WITH THE SEED: THE CARDS: each row of YthonkcldddfpnaaDoorRows.lean that lists a variable, with what it lists TIED to the program's text (the seventh form; the later family's looks); each row that meets fmt, with fmt's text TOLD by the authors' own Lean function (tested against real Go, not proved from fmt's source: count such statements apart). THE CARD IS WHAT COUNTS. Prove the row's statement (the work); the ties are given (YthonkcldddfpnaaDoorTie.lean); close each card by the builder's one call (the guide's Derived/Test/ToyasCard.lean, 'card_holds'). Laid BY PROGRAM, IN A SANDBOX (cutbox-door.mjs). By AI agents, Wed Nov 11 2026. No macro, syntax, notation, axiom, sorry.
-/
import Derived.Test.YthonkcldddfpnaaDoorRows
import GoSem.ClaimSeven
namespace Go.Proofs.YthonkcldddfpnaaDoor
namespace Rows

/-- THE TIED CARD OF 'cablewaylaw05.FramePuts'. -/
def framePutsCard : Claim7 := { stood := { row := framePutsRow, standIns := [], harness := (true, "7977c219f4e8eab3d5f44d78230c49decd4e02ed2b44eba5a29d774b10d486ad"), looks := false }, kinds := [], alts := [], laidByText := true, laidKinds := [.wider, .wider, .wider, .wider, .wider, .wider, .wider, .wider, .data, .wider, .data], laidTests := true, laidLooks := .later }
def FramePutsCardSaid : Prop := Claim7.holds Tryd.pinned (.plain (OpenSpec.ofChange framePutsSpec)) framePutsCard

/-- THE TIED CARD OF 'cablewaylaw05.FrameGets'. -/
def frameGetsCard : Claim7 := { stood := { row := frameGetsRow, standIns := [], harness := (true, "7977c219f4e8eab3d5f44d78230c49decd4e02ed2b44eba5a29d774b10d486ad"), looks := false }, kinds := [], alts := [], laidByText := true, laidKinds := [.wider, .wider, .wider, .wider, .wider, .wider, .wider, .wider, .data, .wider, .data], laidTests := true, laidLooks := .later }
def FrameGetsCardSaid : Prop := Claim7.holds Tryd.pinned (.plain (OpenSpec.ofChange frameGetsSpec)) frameGetsCard

/-- THE TIED CARD OF 'cablewaylaw05.FrameTimes'. -/
def frameTimesCard : Claim7 := { stood := { row := frameTimesRow, standIns := [], harness := (true, "7977c219f4e8eab3d5f44d78230c49decd4e02ed2b44eba5a29d774b10d486ad"), looks := false }, kinds := [], alts := [], laidByText := true, laidKinds := [.wider, .wider, .wider, .wider, .wider, .wider, .wider, .wider, .data, .wider, .data], laidTests := true, laidLooks := .later }
def FrameTimesCardSaid : Prop := Claim7.holds Tryd.pinned (.plain (OpenSpec.ofChange frameTimesSpec)) frameTimesCard

/-- THE TIED CARD OF 'cablewaylaw09.SlotWords'. -/
def slotWordsCard : Claim7 := { stood := { row := slotWordsRow, standIns := [], harness := (true, "7977c219f4e8eab3d5f44d78230c49decd4e02ed2b44eba5a29d774b10d486ad"), looks := false }, kinds := [], alts := [], laidByText := true, laidKinds := [.wider, .wider], laidTests := true, laidLooks := .later }
def SlotWordsCardSaid : Prop := Claim7.holds Tryd.pinned (.plain (OpenSpec.ofChange slotWordsSpec)) slotWordsCard

/-- THE TIED CARD OF 'cablewaylaw09.SlotTurns'. -/
def slotTurnsCard : Claim7 := { stood := { row := slotTurnsRow, standIns := [], harness := (true, "7977c219f4e8eab3d5f44d78230c49decd4e02ed2b44eba5a29d774b10d486ad"), looks := false }, kinds := [], alts := [], laidByText := true, laidKinds := [.wider, .wider], laidTests := true, laidLooks := .later }
def SlotTurnsCardSaid : Prop := Claim7.holds Tryd.pinned (.plain (OpenSpec.ofChange slotTurnsSpec)) slotTurnsCard

/-- THE TIED CARD OF 'cablewaylaw09.SlotStale'. -/
def slotStaleCard : Claim7 := { stood := { row := slotStaleRow, standIns := [], harness := (true, "7977c219f4e8eab3d5f44d78230c49decd4e02ed2b44eba5a29d774b10d486ad"), looks := false }, kinds := [], alts := [], laidByText := true, laidKinds := [.wider, .wider], laidTests := true, laidLooks := .later }
def SlotStaleCardSaid : Prop := Claim7.holds Tryd.pinned (.plain (OpenSpec.ofChange slotStaleSpec)) slotStaleCard

/-- THE TIED CARD OF 'cablewaylaw11.SettleStale'. -/
def settleStaleCard : Claim7 := { stood := { row := settleStaleRow, standIns := [], harness := (true, "7977c219f4e8eab3d5f44d78230c49decd4e02ed2b44eba5a29d774b10d486ad"), looks := false }, kinds := [], alts := [], laidByText := true, laidKinds := [.wider, .wider], laidTests := true, laidLooks := .later }
def SettleStaleCardSaid : Prop := Claim7.holds Tryd.pinned (.plain (OpenSpec.ofChange settleStaleSpec)) settleStaleCard

/-- THE TIED CARD OF 'cablewaylaw11.SettleLate'. -/
def settleLateCard : Claim7 := { stood := { row := settleLateRow, standIns := [], harness := (true, "7977c219f4e8eab3d5f44d78230c49decd4e02ed2b44eba5a29d774b10d486ad"), looks := false }, kinds := [], alts := [], laidByText := true, laidKinds := [.wider, .wider], laidTests := true, laidLooks := .later }
def SettleLateCardSaid : Prop := Claim7.holds Tryd.pinned (.plain (OpenSpec.ofChange settleLateSpec)) settleLateCard

/-- THE TIED CARD OF 'cablewaylaw10.TablePlays'. -/
def tablePlaysCard : Claim7 := { stood := { row := tablePlaysRow, standIns := [], harness := (true, "7977c219f4e8eab3d5f44d78230c49decd4e02ed2b44eba5a29d774b10d486ad"), looks := false }, kinds := [], alts := [], laidByText := true, laidKinds := [.wider, .wider], laidTests := true, laidLooks := .later }
def TablePlaysCardSaid : Prop := Claim7.holds Tryd.pinned (.plain (OpenSpec.ofChange tablePlaysSpec)) tablePlaysCard

/-- THE TIED CARD OF 'cablewaylaw10.TableMay'. -/
def tableMayCard : Claim7 := { stood := { row := tableMayRow, standIns := [], harness := (true, "7977c219f4e8eab3d5f44d78230c49decd4e02ed2b44eba5a29d774b10d486ad"), looks := false }, kinds := [], alts := [], laidByText := true, laidKinds := [.wider, .wider], laidTests := true, laidLooks := .later }
def TableMayCardSaid : Prop := Claim7.holds Tryd.pinned (.plain (OpenSpec.ofChange tableMaySpec)) tableMayCard

/-- THE SECOND FORM's CARD OF 'cablewaylaw05.FramePuts'. -/
def framePutsUptoCard : Claim7 := { stood := { row := framePutsUptoRow, standIns := [], harness := (true, "7977c219f4e8eab3d5f44d78230c49decd4e02ed2b44eba5a29d774b10d486ad"), looks := false }, kinds := [], alts := [], laidByText := true, laidKinds := [.wider, .wider, .wider, .wider, .wider, .wider, .wider, .wider, .data, .wider, .data], laidTests := true, laidLooks := .later }
def FramePutsUptoCardSaid : Prop := Claim7.holds Tryd.pinned (.plain (OpenSpec.upto framePutsSpec)) framePutsUptoCard

/-- THE SECOND FORM's CARD OF 'cablewaylaw05.FrameGets'. -/
def frameGetsUptoCard : Claim7 := { stood := { row := frameGetsUptoRow, standIns := [], harness := (true, "7977c219f4e8eab3d5f44d78230c49decd4e02ed2b44eba5a29d774b10d486ad"), looks := false }, kinds := [], alts := [], laidByText := true, laidKinds := [.wider, .wider, .wider, .wider, .wider, .wider, .wider, .wider, .data, .wider, .data], laidTests := true, laidLooks := .later }
def FrameGetsUptoCardSaid : Prop := Claim7.holds Tryd.pinned (.plain (OpenSpec.upto frameGetsSpec)) frameGetsUptoCard

/-- THE SECOND FORM's CARD OF 'cablewaylaw05.FrameTimes'. -/
def frameTimesUptoCard : Claim7 := { stood := { row := frameTimesUptoRow, standIns := [], harness := (true, "7977c219f4e8eab3d5f44d78230c49decd4e02ed2b44eba5a29d774b10d486ad"), looks := false }, kinds := [], alts := [], laidByText := true, laidKinds := [.wider, .wider, .wider, .wider, .wider, .wider, .wider, .wider, .data, .wider, .data], laidTests := true, laidLooks := .later }
def FrameTimesUptoCardSaid : Prop := Claim7.holds Tryd.pinned (.plain (OpenSpec.upto frameTimesSpec)) frameTimesUptoCard

/-- THE SECOND FORM's CARD OF 'cablewaylaw09.SlotWords'. -/
def slotWordsUptoCard : Claim7 := { stood := { row := slotWordsUptoRow, standIns := [], harness := (true, "7977c219f4e8eab3d5f44d78230c49decd4e02ed2b44eba5a29d774b10d486ad"), looks := false }, kinds := [], alts := [], laidByText := true, laidKinds := [.wider, .wider], laidTests := true, laidLooks := .later }
def SlotWordsUptoCardSaid : Prop := Claim7.holds Tryd.pinned (.plain (OpenSpec.upto slotWordsSpec)) slotWordsUptoCard

/-- THE SECOND FORM's CARD OF 'cablewaylaw09.SlotTurns'. -/
def slotTurnsUptoCard : Claim7 := { stood := { row := slotTurnsUptoRow, standIns := [], harness := (true, "7977c219f4e8eab3d5f44d78230c49decd4e02ed2b44eba5a29d774b10d486ad"), looks := false }, kinds := [], alts := [], laidByText := true, laidKinds := [.wider, .wider], laidTests := true, laidLooks := .later }
def SlotTurnsUptoCardSaid : Prop := Claim7.holds Tryd.pinned (.plain (OpenSpec.upto slotTurnsSpec)) slotTurnsUptoCard

/-- THE SECOND FORM's CARD OF 'cablewaylaw09.SlotStale'. -/
def slotStaleUptoCard : Claim7 := { stood := { row := slotStaleUptoRow, standIns := [], harness := (true, "7977c219f4e8eab3d5f44d78230c49decd4e02ed2b44eba5a29d774b10d486ad"), looks := false }, kinds := [], alts := [], laidByText := true, laidKinds := [.wider, .wider], laidTests := true, laidLooks := .later }
def SlotStaleUptoCardSaid : Prop := Claim7.holds Tryd.pinned (.plain (OpenSpec.upto slotStaleSpec)) slotStaleUptoCard

/-- THE SECOND FORM's CARD OF 'cablewaylaw11.SettleStale'. -/
def settleStaleUptoCard : Claim7 := { stood := { row := settleStaleUptoRow, standIns := [], harness := (true, "7977c219f4e8eab3d5f44d78230c49decd4e02ed2b44eba5a29d774b10d486ad"), looks := false }, kinds := [], alts := [], laidByText := true, laidKinds := [.wider, .wider], laidTests := true, laidLooks := .later }
def SettleStaleUptoCardSaid : Prop := Claim7.holds Tryd.pinned (.plain (OpenSpec.upto settleStaleSpec)) settleStaleUptoCard

/-- THE SECOND FORM's CARD OF 'cablewaylaw11.SettleLate'. -/
def settleLateUptoCard : Claim7 := { stood := { row := settleLateUptoRow, standIns := [], harness := (true, "7977c219f4e8eab3d5f44d78230c49decd4e02ed2b44eba5a29d774b10d486ad"), looks := false }, kinds := [], alts := [], laidByText := true, laidKinds := [.wider, .wider], laidTests := true, laidLooks := .later }
def SettleLateUptoCardSaid : Prop := Claim7.holds Tryd.pinned (.plain (OpenSpec.upto settleLateSpec)) settleLateUptoCard

/-- THE SECOND FORM's CARD OF 'cablewaylaw10.TablePlays'. -/
def tablePlaysUptoCard : Claim7 := { stood := { row := tablePlaysUptoRow, standIns := [], harness := (true, "7977c219f4e8eab3d5f44d78230c49decd4e02ed2b44eba5a29d774b10d486ad"), looks := false }, kinds := [], alts := [], laidByText := true, laidKinds := [.wider, .wider], laidTests := true, laidLooks := .later }
def TablePlaysUptoCardSaid : Prop := Claim7.holds Tryd.pinned (.plain (OpenSpec.upto tablePlaysSpec)) tablePlaysUptoCard

/-- THE SECOND FORM's CARD OF 'cablewaylaw10.TableMay'. -/
def tableMayUptoCard : Claim7 := { stood := { row := tableMayUptoRow, standIns := [], harness := (true, "7977c219f4e8eab3d5f44d78230c49decd4e02ed2b44eba5a29d774b10d486ad"), looks := false }, kinds := [], alts := [], laidByText := true, laidKinds := [.wider, .wider], laidTests := true, laidLooks := .later }
def TableMayUptoCardSaid : Prop := Claim7.holds Tryd.pinned (.plain (OpenSpec.upto tableMaySpec)) tableMayUptoCard
end Rows
end Go.Proofs.YthonkcldddfpnaaDoor
