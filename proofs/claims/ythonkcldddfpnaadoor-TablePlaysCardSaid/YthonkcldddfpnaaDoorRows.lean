/-
  NARROWER THAN 'FOR EVERY INPUT', by the rows' own cells (each row's printed sentence says how): FramePuts: laid · FrameGets: laid · FrameTimes: laid · SlotWords: laid · SlotTurns: laid · SlotStale: laid · SettleStale: laid · SettleLate: laid · TablePlays: laid · TableMay: laid.
  DERIVED. THE GIVEN ROWS OF THIS SEAT. 10 by the template 'for every input the law returns true; each argument reads behind the call as it read before'; 0 by the template 'total and deterministic' (their statements: YthonkcldddfpnaaDoorTotals.lean).
  GIVEN WITH THE SEED: the statements are not yours to turn. If you find one false, say at which input.
  Laid BY PROGRAM, IN A SANDBOX (cutbox-rows.mjs): the forced cells as the released guide's own fill.sh prints them over the translation 1045e65d9d7171bb… (all of the seat's roots in one cut). By AI agents, Wed Nov 11 2026. No macro, syntax, notation, axiom, sorry.
-/
import Derived.Test.YthonkcldddfpnaaDoorChecked
import GoSem.Claim
import GoSem.ClaimJoined
import GoSem.ClaimMapViews
import Derived.JoinedTies
import Derived.KernelRfl
namespace Go.Proofs.YthonkcldddfpnaaDoor
/- THE CELL 'sum', in the pinned program and in every row, IS THE sha256 OF THE DUMP (.gsa) THAT YthonkcldddfpnaaDoorProg.lean LOADS. Nothing in Lean hashes anything: it is a label: what it is worth is what the hold of that sum in a sandbox is worth. -/
noncomputable def Tryd.pinned : Pinned := { name := "ythonkcldddfpnaadoor", sum := "1045e65d9d7171bb544ea36cf9a610c7233741dc163aa1a179a649f90d1ff386", checked := Tryd.checked }
namespace Rows
def none {H : Type} : Left H := { results := [], args := [] }

/- WHAT THE LISTED PACKAGE-LEVEL VARIABLES READ AS WHEN THE CALL BEGINS. Each datum BY PROGRAM (the guide's laid-datum.mjs) off the statement by which the dump's own 'gosem.cut.vars' lays the variable. In a bare row this is a premise. The card (YthonkcldddfpnaaDoorCards.lean) ties it to the program's text. -/
def laid_cableway_frame_kind {H : Type} : DataW H := .agg [.lit (.int .i64 0), .lit (.int .i64 4)]
def laid_cableway_frame_client {H : Type} : DataW H := .agg [.lit (.int .i64 4), .lit (.int .i64 4)]
def laid_cableway_frame_service {H : Type} : DataW H := .agg [.lit (.int .i64 8), .lit (.int .i64 4)]
def laid_cableway_frame_slot {H : Type} : DataW H := .agg [.lit (.int .i64 12), .lit (.int .i64 8)]
def laid_cableway_frame_try {H : Type} : DataW H := .agg [.lit (.int .i64 20), .lit (.int .i64 4)]
def laid_cableway_frame_sure {H : Type} : DataW H := .agg [.lit (.int .i64 24), .lit (.int .i64 1)]
def laid_cableway_frame_stream {H : Type} : DataW H := .agg [.lit (.int .i64 25), .lit (.int .i64 1)]
def laid_cableway_frame_gen {H : Type} : DataW H := .agg [.lit (.int .i64 26), .lit (.int .i64 24)]
def laid_cableway_frame_call {H : Type} : DataW H := .agg [.lit (.int .i64 0), .lit (.int .i64 32)]
def laid_cableway_frame_value {H : Type} : DataW H := .agg [.lit (.int .i64 32), .lit (.int .i64 32)]
def laid_cableway_frame_seq {H : Type} : DataW H := .agg [.lit (.int .i64 0), .lit (.int .i64 16)]
def laid_cableway_slot_gen {H : Type} : DataW H := .agg [.lit (.int .i64 0), .lit (.int .i64 24)]
def laid_cableway_slot_state {H : Type} : DataW H := .agg [.lit (.int .i64 24), .lit (.int .i64 2)]

/-- 'cablewaylaw05.FramePuts': WHATEVER THE INPUT: true; the input reads as it did. -/
def framePutsSpec : ChangeSpec := { name := "framePuts", fn := fun _ => fun
  | [d1, d2] => { results := [.lit (.bool true)], args := [d1, d2] }
  | _ => none }
def framePutsRow : OpenClaim := { program := "ythonkcldddfpnaadoor", sum := "1045e65d9d7171bb544ea36cf9a610c7233741dc163aa1a179a649f90d1ff386", func := "cableway/cablewaylaw05.FramePuts", spec := "framePuts", unfollowed := true, recurses := true, named := ["cableway/frame.kind", "cableway/frame.client", "cableway/frame.service", "cableway/frame.slot", "cableway/frame.try", "cableway/frame.sure", "cableway/frame.stream", "cableway/frame.gen", "cableway/frame.value", "cableway/frame.call", "cableway/frame.seq"], apart := false, laid := [("cableway/frame.kind", laid_cableway_frame_kind), ("cableway/frame.client", laid_cableway_frame_client), ("cableway/frame.service", laid_cableway_frame_service), ("cableway/frame.slot", laid_cableway_frame_slot), ("cableway/frame.try", laid_cableway_frame_try), ("cableway/frame.sure", laid_cableway_frame_sure), ("cableway/frame.stream", laid_cableway_frame_stream), ("cableway/frame.gen", laid_cableway_frame_gen), ("cableway/frame.call", laid_cableway_frame_call), ("cableway/frame.value", laid_cableway_frame_value), ("cableway/frame.seq", laid_cableway_frame_seq)] }
def FramePutsSaid : Prop := framePutsRow.holds Tryd.pinned (OpenSpec.ofChange framePutsSpec)

/-- ITS FALSE NEIGHBOUR: 'it returns false'. Refute it at one input. -/
def framePutsWrong : ChangeSpec := { name := "framePuts", fn := fun _ => fun
  | [d1, d2] => { results := [.lit (.bool false)], args := [d1, d2] }
  | _ => none }
def FramePutsWrongFalsely : Prop := framePutsRow.holds Tryd.pinned (OpenSpec.ofChange framePutsWrong)

/-- 'cablewaylaw05.FrameGets': WHATEVER THE INPUT: true; the input reads as it did. -/
def frameGetsSpec : ChangeSpec := { name := "frameGets", fn := fun _ => fun
  | [d1, d2, d3] => { results := [.lit (.bool true)], args := [d1, d2, d3] }
  | _ => none }
def frameGetsRow : OpenClaim := { program := "ythonkcldddfpnaadoor", sum := "1045e65d9d7171bb544ea36cf9a610c7233741dc163aa1a179a649f90d1ff386", func := "cableway/cablewaylaw05.FrameGets", spec := "frameGets", unfollowed := true, recurses := true, named := ["cableway/frame.sure", "cableway/frame.stream", "cableway/frame.call", "cableway/frame.value", "cableway/frame.kind", "cableway/frame.client", "cableway/frame.service", "cableway/frame.slot", "cableway/frame.try", "cableway/frame.gen", "cableway/frame.seq"], apart := false, laid := [("cableway/frame.kind", laid_cableway_frame_kind), ("cableway/frame.client", laid_cableway_frame_client), ("cableway/frame.service", laid_cableway_frame_service), ("cableway/frame.slot", laid_cableway_frame_slot), ("cableway/frame.try", laid_cableway_frame_try), ("cableway/frame.sure", laid_cableway_frame_sure), ("cableway/frame.stream", laid_cableway_frame_stream), ("cableway/frame.gen", laid_cableway_frame_gen), ("cableway/frame.call", laid_cableway_frame_call), ("cableway/frame.value", laid_cableway_frame_value), ("cableway/frame.seq", laid_cableway_frame_seq)] }
def FrameGetsSaid : Prop := frameGetsRow.holds Tryd.pinned (OpenSpec.ofChange frameGetsSpec)

/-- ITS FALSE NEIGHBOUR: 'it returns false'. Refute it at one input. -/
def frameGetsWrong : ChangeSpec := { name := "frameGets", fn := fun _ => fun
  | [d1, d2, d3] => { results := [.lit (.bool false)], args := [d1, d2, d3] }
  | _ => none }
def FrameGetsWrongFalsely : Prop := frameGetsRow.holds Tryd.pinned (OpenSpec.ofChange frameGetsWrong)

/-- 'cablewaylaw05.FrameTimes': WHATEVER THE INPUT: true; the input reads as it did. -/
def frameTimesSpec : ChangeSpec := { name := "frameTimes", fn := fun _ => fun
  | [d1, d2] => { results := [.lit (.bool true)], args := [d1, d2] }
  | _ => none }
def frameTimesRow : OpenClaim := { program := "ythonkcldddfpnaadoor", sum := "1045e65d9d7171bb544ea36cf9a610c7233741dc163aa1a179a649f90d1ff386", func := "cableway/cablewaylaw05.FrameTimes", spec := "frameTimes", unfollowed := true, recurses := true, named := ["cableway/frame.kind", "cableway/frame.client", "cableway/frame.service", "cableway/frame.slot", "cableway/frame.try", "cableway/frame.sure", "cableway/frame.stream", "cableway/frame.gen", "cableway/frame.value", "cableway/frame.call", "cableway/frame.seq"], apart := false, laid := [("cableway/frame.kind", laid_cableway_frame_kind), ("cableway/frame.client", laid_cableway_frame_client), ("cableway/frame.service", laid_cableway_frame_service), ("cableway/frame.slot", laid_cableway_frame_slot), ("cableway/frame.try", laid_cableway_frame_try), ("cableway/frame.sure", laid_cableway_frame_sure), ("cableway/frame.stream", laid_cableway_frame_stream), ("cableway/frame.gen", laid_cableway_frame_gen), ("cableway/frame.call", laid_cableway_frame_call), ("cableway/frame.value", laid_cableway_frame_value), ("cableway/frame.seq", laid_cableway_frame_seq)] }
def FrameTimesSaid : Prop := frameTimesRow.holds Tryd.pinned (OpenSpec.ofChange frameTimesSpec)

/-- ITS FALSE NEIGHBOUR: 'it returns false'. Refute it at one input. -/
def frameTimesWrong : ChangeSpec := { name := "frameTimes", fn := fun _ => fun
  | [d1, d2] => { results := [.lit (.bool false)], args := [d1, d2] }
  | _ => none }
def FrameTimesWrongFalsely : Prop := frameTimesRow.holds Tryd.pinned (OpenSpec.ofChange frameTimesWrong)

/-- 'cablewaylaw09.SlotWords': WHATEVER THE INPUT: true; the input reads as it did. -/
def slotWordsSpec : ChangeSpec := { name := "slotWords", fn := fun _ => fun
  | [d1, d2, d3] => { results := [.lit (.bool true)], args := [d1, d2, d3] }
  | _ => none }
def slotWordsRow : OpenClaim := { program := "ythonkcldddfpnaadoor", sum := "1045e65d9d7171bb544ea36cf9a610c7233741dc163aa1a179a649f90d1ff386", func := "cableway/cablewaylaw09.SlotWords", spec := "slotWords", named := ["cableway/slot.state", "cableway/slot.gen"], apart := false, laid := [("cableway/slot.gen", laid_cableway_slot_gen), ("cableway/slot.state", laid_cableway_slot_state)] }
def SlotWordsSaid : Prop := slotWordsRow.holds Tryd.pinned (OpenSpec.ofChange slotWordsSpec)

/-- ITS FALSE NEIGHBOUR: 'it returns false'. Refute it at one input. -/
def slotWordsWrong : ChangeSpec := { name := "slotWords", fn := fun _ => fun
  | [d1, d2, d3] => { results := [.lit (.bool false)], args := [d1, d2, d3] }
  | _ => none }
def SlotWordsWrongFalsely : Prop := slotWordsRow.holds Tryd.pinned (OpenSpec.ofChange slotWordsWrong)

/-- 'cablewaylaw09.SlotTurns': WHATEVER THE INPUT: true; the input reads as it did. -/
def slotTurnsSpec : ChangeSpec := { name := "slotTurns", fn := fun _ => fun
  | [d1, d2] => { results := [.lit (.bool true)], args := [d1, d2] }
  | _ => none }
def slotTurnsRow : OpenClaim := { program := "ythonkcldddfpnaadoor", sum := "1045e65d9d7171bb544ea36cf9a610c7233741dc163aa1a179a649f90d1ff386", func := "cableway/cablewaylaw09.SlotTurns", spec := "slotTurns", named := ["cableway/slot.state", "cableway/slot.gen"], apart := false, laid := [("cableway/slot.gen", laid_cableway_slot_gen), ("cableway/slot.state", laid_cableway_slot_state)] }
def SlotTurnsSaid : Prop := slotTurnsRow.holds Tryd.pinned (OpenSpec.ofChange slotTurnsSpec)

/-- ITS FALSE NEIGHBOUR: 'it returns false'. Refute it at one input. -/
def slotTurnsWrong : ChangeSpec := { name := "slotTurns", fn := fun _ => fun
  | [d1, d2] => { results := [.lit (.bool false)], args := [d1, d2] }
  | _ => none }
def SlotTurnsWrongFalsely : Prop := slotTurnsRow.holds Tryd.pinned (OpenSpec.ofChange slotTurnsWrong)

/-- 'cablewaylaw09.SlotStale': WHATEVER THE INPUT: true; the input reads as it did. -/
def slotStaleSpec : ChangeSpec := { name := "slotStale", fn := fun _ => fun
  | [d1, d2] => { results := [.lit (.bool true)], args := [d1, d2] }
  | _ => none }
def slotStaleRow : OpenClaim := { program := "ythonkcldddfpnaadoor", sum := "1045e65d9d7171bb544ea36cf9a610c7233741dc163aa1a179a649f90d1ff386", func := "cableway/cablewaylaw09.SlotStale", spec := "slotStale", named := ["cableway/slot.state", "cableway/slot.gen"], apart := false, laid := [("cableway/slot.gen", laid_cableway_slot_gen), ("cableway/slot.state", laid_cableway_slot_state)] }
def SlotStaleSaid : Prop := slotStaleRow.holds Tryd.pinned (OpenSpec.ofChange slotStaleSpec)

/-- ITS FALSE NEIGHBOUR: 'it returns false'. Refute it at one input. -/
def slotStaleWrong : ChangeSpec := { name := "slotStale", fn := fun _ => fun
  | [d1, d2] => { results := [.lit (.bool false)], args := [d1, d2] }
  | _ => none }
def SlotStaleWrongFalsely : Prop := slotStaleRow.holds Tryd.pinned (OpenSpec.ofChange slotStaleWrong)

/-- 'cablewaylaw11.SettleStale': WHATEVER THE INPUT: true; the input reads as it did. -/
def settleStaleSpec : ChangeSpec := { name := "settleStale", fn := fun _ => fun
  | [d1, d2] => { results := [.lit (.bool true)], args := [d1, d2] }
  | _ => none }
def settleStaleRow : OpenClaim := { program := "ythonkcldddfpnaadoor", sum := "1045e65d9d7171bb544ea36cf9a610c7233741dc163aa1a179a649f90d1ff386", func := "cableway/cablewaylaw11.SettleStale", spec := "settleStale", named := ["cableway/slot.gen", "cableway/slot.state"], apart := false, laid := [("cableway/slot.gen", laid_cableway_slot_gen), ("cableway/slot.state", laid_cableway_slot_state)] }
def SettleStaleSaid : Prop := settleStaleRow.holds Tryd.pinned (OpenSpec.ofChange settleStaleSpec)

/-- ITS FALSE NEIGHBOUR: 'it returns false'. Refute it at one input. -/
def settleStaleWrong : ChangeSpec := { name := "settleStale", fn := fun _ => fun
  | [d1, d2] => { results := [.lit (.bool false)], args := [d1, d2] }
  | _ => none }
def SettleStaleWrongFalsely : Prop := settleStaleRow.holds Tryd.pinned (OpenSpec.ofChange settleStaleWrong)

/-- 'cablewaylaw11.SettleLate': WHATEVER THE INPUT: true; the input reads as it did. -/
def settleLateSpec : ChangeSpec := { name := "settleLate", fn := fun _ => fun
  | [d1, d2] => { results := [.lit (.bool true)], args := [d1, d2] }
  | _ => none }
def settleLateRow : OpenClaim := { program := "ythonkcldddfpnaadoor", sum := "1045e65d9d7171bb544ea36cf9a610c7233741dc163aa1a179a649f90d1ff386", func := "cableway/cablewaylaw11.SettleLate", spec := "settleLate", named := ["cableway/slot.state", "cableway/slot.gen"], apart := false, laid := [("cableway/slot.gen", laid_cableway_slot_gen), ("cableway/slot.state", laid_cableway_slot_state)] }
def SettleLateSaid : Prop := settleLateRow.holds Tryd.pinned (OpenSpec.ofChange settleLateSpec)

/-- ITS FALSE NEIGHBOUR: 'it returns false'. Refute it at one input. -/
def settleLateWrong : ChangeSpec := { name := "settleLate", fn := fun _ => fun
  | [d1, d2] => { results := [.lit (.bool false)], args := [d1, d2] }
  | _ => none }
def SettleLateWrongFalsely : Prop := settleLateRow.holds Tryd.pinned (OpenSpec.ofChange settleLateWrong)

/-- 'cablewaylaw10.TablePlays': WHATEVER THE INPUT: true; the input reads as it did. -/
def tablePlaysSpec : ChangeSpec := { name := "tablePlays", fn := fun _ => fun
  | [d1, d2] => { results := [.lit (.bool true)], args := [d1, d2] }
  | _ => none }
def tablePlaysRow : OpenClaim := { program := "ythonkcldddfpnaadoor", sum := "1045e65d9d7171bb544ea36cf9a610c7233741dc163aa1a179a649f90d1ff386", func := "cableway/cablewaylaw10.TablePlays", spec := "tablePlays", named := ["cableway/slot.state", "cableway/slot.gen"], apart := false, laid := [("cableway/slot.gen", laid_cableway_slot_gen), ("cableway/slot.state", laid_cableway_slot_state)] }
def TablePlaysSaid : Prop := tablePlaysRow.holds Tryd.pinned (OpenSpec.ofChange tablePlaysSpec)

/-- ITS FALSE NEIGHBOUR: 'it returns false'. Refute it at one input. -/
def tablePlaysWrong : ChangeSpec := { name := "tablePlays", fn := fun _ => fun
  | [d1, d2] => { results := [.lit (.bool false)], args := [d1, d2] }
  | _ => none }
def TablePlaysWrongFalsely : Prop := tablePlaysRow.holds Tryd.pinned (OpenSpec.ofChange tablePlaysWrong)

/-- 'cablewaylaw10.TableMay': WHATEVER THE INPUT: true; the input reads as it did. -/
def tableMaySpec : ChangeSpec := { name := "tableMay", fn := fun _ => fun
  | [d1, d2] => { results := [.lit (.bool true)], args := [d1, d2] }
  | _ => none }
def tableMayRow : OpenClaim := { program := "ythonkcldddfpnaadoor", sum := "1045e65d9d7171bb544ea36cf9a610c7233741dc163aa1a179a649f90d1ff386", func := "cableway/cablewaylaw10.TableMay", spec := "tableMay", named := ["cableway/slot.state", "cableway/slot.gen"], apart := false, laid := [("cableway/slot.gen", laid_cableway_slot_gen), ("cableway/slot.state", laid_cableway_slot_state)] }
def TableMaySaid : Prop := tableMayRow.holds Tryd.pinned (OpenSpec.ofChange tableMaySpec)

/-- ITS FALSE NEIGHBOUR: 'it returns false'. Refute it at one input. -/
def tableMayWrong : ChangeSpec := { name := "tableMay", fn := fun _ => fun
  | [d1, d2] => { results := [.lit (.bool false)], args := [d1, d2] }
  | _ => none }
def TableMayWrongFalsely : Prop := tableMayRow.holds Tryd.pinned (OpenSpec.ofChange tableMayWrong)

/- THE SECOND FORM. 'bulk': how many values and letters a reading holds, each counted each time it is reached (what is shared counts as often as it is met; a slice's spare places count too). A statement '..UptoSaid' is the law's where the arguments, and the package variables that the reading takes, are together of bulk at most 1048576: NARROWER than '..Said'. Prove '..Said' where nothing that the law and all that it calls make is longer than what came in: it says more and counts as full. Else prove '..UptoSaid'. A law counts once. -/
mutual
def uptoBulk {H : Type} : DataW H → Nat
  | .lit (.string bytes) => bytes.length + 1
  | .lit _ => 1
  | .nil => 1
  | .ptr d => uptoBulk d + 1
  | .slice elems spare => uptoBulkAll elems + uptoBulkAll spare + 1
  | .agg parts => uptoBulkAll parts + 1
  | .iface _ d => uptoBulk d + 1
  | .map entries => uptoBulkEntries entries + 1
  | .held _ => 1
def uptoBulkAll {H : Type} : List (DataW H) → Nat
  | [] => 0
  | d :: r => uptoBulk d + uptoBulkAll r
def uptoBulkEntries {H : Type} : List (Lit × DataW H) → Nat
  | [] => 0
  | x :: r => uptoBulkEntry x + uptoBulkEntries r
def uptoBulkEntry {H : Type} : Lit × DataW H → Nat
  | (.string bytes, d) => bytes.length + uptoBulk d + 1
  | (_, d) => uptoBulk d + 1
 end
def uptoSmall : (H : Type) → List (DataW H) → Bool := fun _ ds => decide (uptoBulkAll ds ≤ 1048576)
def OpenSpec.upto (s : _root_.Go.ChangeSpec) : _root_.Go.OpenSpec := { _root_.Go.OpenSpec.ofChange s with cond := some uptoSmall }

/-- 'cablewaylaw05.FramePuts', WHERE WHAT IT READS IS OF BULK AT MOST 1048576: true; the input reads as it did. -/
def framePutsUptoRow : OpenClaim := { program := "ythonkcldddfpnaadoor", sum := "1045e65d9d7171bb544ea36cf9a610c7233741dc163aa1a179a649f90d1ff386", func := "cableway/cablewaylaw05.FramePuts", spec := "framePuts", unfollowed := true, recurses := true, named := ["cableway/frame.kind", "cableway/frame.client", "cableway/frame.service", "cableway/frame.slot", "cableway/frame.try", "cableway/frame.sure", "cableway/frame.stream", "cableway/frame.gen", "cableway/frame.value", "cableway/frame.call", "cableway/frame.seq"], apart := false, laid := [("cableway/frame.kind", laid_cableway_frame_kind), ("cableway/frame.client", laid_cableway_frame_client), ("cableway/frame.service", laid_cableway_frame_service), ("cableway/frame.slot", laid_cableway_frame_slot), ("cableway/frame.try", laid_cableway_frame_try), ("cableway/frame.sure", laid_cableway_frame_sure), ("cableway/frame.stream", laid_cableway_frame_stream), ("cableway/frame.gen", laid_cableway_frame_gen), ("cableway/frame.call", laid_cableway_frame_call), ("cableway/frame.value", laid_cableway_frame_value), ("cableway/frame.seq", laid_cableway_frame_seq)], narrowed := true }
def FramePutsUptoSaid : Prop := framePutsUptoRow.holds Tryd.pinned (OpenSpec.upto framePutsSpec)

/-- 'cablewaylaw05.FrameGets', WHERE WHAT IT READS IS OF BULK AT MOST 1048576: true; the input reads as it did. -/
def frameGetsUptoRow : OpenClaim := { program := "ythonkcldddfpnaadoor", sum := "1045e65d9d7171bb544ea36cf9a610c7233741dc163aa1a179a649f90d1ff386", func := "cableway/cablewaylaw05.FrameGets", spec := "frameGets", unfollowed := true, recurses := true, named := ["cableway/frame.sure", "cableway/frame.stream", "cableway/frame.call", "cableway/frame.value", "cableway/frame.kind", "cableway/frame.client", "cableway/frame.service", "cableway/frame.slot", "cableway/frame.try", "cableway/frame.gen", "cableway/frame.seq"], apart := false, laid := [("cableway/frame.kind", laid_cableway_frame_kind), ("cableway/frame.client", laid_cableway_frame_client), ("cableway/frame.service", laid_cableway_frame_service), ("cableway/frame.slot", laid_cableway_frame_slot), ("cableway/frame.try", laid_cableway_frame_try), ("cableway/frame.sure", laid_cableway_frame_sure), ("cableway/frame.stream", laid_cableway_frame_stream), ("cableway/frame.gen", laid_cableway_frame_gen), ("cableway/frame.call", laid_cableway_frame_call), ("cableway/frame.value", laid_cableway_frame_value), ("cableway/frame.seq", laid_cableway_frame_seq)], narrowed := true }
def FrameGetsUptoSaid : Prop := frameGetsUptoRow.holds Tryd.pinned (OpenSpec.upto frameGetsSpec)

/-- 'cablewaylaw05.FrameTimes', WHERE WHAT IT READS IS OF BULK AT MOST 1048576: true; the input reads as it did. -/
def frameTimesUptoRow : OpenClaim := { program := "ythonkcldddfpnaadoor", sum := "1045e65d9d7171bb544ea36cf9a610c7233741dc163aa1a179a649f90d1ff386", func := "cableway/cablewaylaw05.FrameTimes", spec := "frameTimes", unfollowed := true, recurses := true, named := ["cableway/frame.kind", "cableway/frame.client", "cableway/frame.service", "cableway/frame.slot", "cableway/frame.try", "cableway/frame.sure", "cableway/frame.stream", "cableway/frame.gen", "cableway/frame.value", "cableway/frame.call", "cableway/frame.seq"], apart := false, laid := [("cableway/frame.kind", laid_cableway_frame_kind), ("cableway/frame.client", laid_cableway_frame_client), ("cableway/frame.service", laid_cableway_frame_service), ("cableway/frame.slot", laid_cableway_frame_slot), ("cableway/frame.try", laid_cableway_frame_try), ("cableway/frame.sure", laid_cableway_frame_sure), ("cableway/frame.stream", laid_cableway_frame_stream), ("cableway/frame.gen", laid_cableway_frame_gen), ("cableway/frame.call", laid_cableway_frame_call), ("cableway/frame.value", laid_cableway_frame_value), ("cableway/frame.seq", laid_cableway_frame_seq)], narrowed := true }
def FrameTimesUptoSaid : Prop := frameTimesUptoRow.holds Tryd.pinned (OpenSpec.upto frameTimesSpec)

/-- 'cablewaylaw09.SlotWords', WHERE WHAT IT READS IS OF BULK AT MOST 1048576: true; the input reads as it did. -/
def slotWordsUptoRow : OpenClaim := { program := "ythonkcldddfpnaadoor", sum := "1045e65d9d7171bb544ea36cf9a610c7233741dc163aa1a179a649f90d1ff386", func := "cableway/cablewaylaw09.SlotWords", spec := "slotWords", named := ["cableway/slot.state", "cableway/slot.gen"], apart := false, laid := [("cableway/slot.gen", laid_cableway_slot_gen), ("cableway/slot.state", laid_cableway_slot_state)], narrowed := true }
def SlotWordsUptoSaid : Prop := slotWordsUptoRow.holds Tryd.pinned (OpenSpec.upto slotWordsSpec)

/-- 'cablewaylaw09.SlotTurns', WHERE WHAT IT READS IS OF BULK AT MOST 1048576: true; the input reads as it did. -/
def slotTurnsUptoRow : OpenClaim := { program := "ythonkcldddfpnaadoor", sum := "1045e65d9d7171bb544ea36cf9a610c7233741dc163aa1a179a649f90d1ff386", func := "cableway/cablewaylaw09.SlotTurns", spec := "slotTurns", named := ["cableway/slot.state", "cableway/slot.gen"], apart := false, laid := [("cableway/slot.gen", laid_cableway_slot_gen), ("cableway/slot.state", laid_cableway_slot_state)], narrowed := true }
def SlotTurnsUptoSaid : Prop := slotTurnsUptoRow.holds Tryd.pinned (OpenSpec.upto slotTurnsSpec)

/-- 'cablewaylaw09.SlotStale', WHERE WHAT IT READS IS OF BULK AT MOST 1048576: true; the input reads as it did. -/
def slotStaleUptoRow : OpenClaim := { program := "ythonkcldddfpnaadoor", sum := "1045e65d9d7171bb544ea36cf9a610c7233741dc163aa1a179a649f90d1ff386", func := "cableway/cablewaylaw09.SlotStale", spec := "slotStale", named := ["cableway/slot.state", "cableway/slot.gen"], apart := false, laid := [("cableway/slot.gen", laid_cableway_slot_gen), ("cableway/slot.state", laid_cableway_slot_state)], narrowed := true }
def SlotStaleUptoSaid : Prop := slotStaleUptoRow.holds Tryd.pinned (OpenSpec.upto slotStaleSpec)

/-- 'cablewaylaw11.SettleStale', WHERE WHAT IT READS IS OF BULK AT MOST 1048576: true; the input reads as it did. -/
def settleStaleUptoRow : OpenClaim := { program := "ythonkcldddfpnaadoor", sum := "1045e65d9d7171bb544ea36cf9a610c7233741dc163aa1a179a649f90d1ff386", func := "cableway/cablewaylaw11.SettleStale", spec := "settleStale", named := ["cableway/slot.gen", "cableway/slot.state"], apart := false, laid := [("cableway/slot.gen", laid_cableway_slot_gen), ("cableway/slot.state", laid_cableway_slot_state)], narrowed := true }
def SettleStaleUptoSaid : Prop := settleStaleUptoRow.holds Tryd.pinned (OpenSpec.upto settleStaleSpec)

/-- 'cablewaylaw11.SettleLate', WHERE WHAT IT READS IS OF BULK AT MOST 1048576: true; the input reads as it did. -/
def settleLateUptoRow : OpenClaim := { program := "ythonkcldddfpnaadoor", sum := "1045e65d9d7171bb544ea36cf9a610c7233741dc163aa1a179a649f90d1ff386", func := "cableway/cablewaylaw11.SettleLate", spec := "settleLate", named := ["cableway/slot.state", "cableway/slot.gen"], apart := false, laid := [("cableway/slot.gen", laid_cableway_slot_gen), ("cableway/slot.state", laid_cableway_slot_state)], narrowed := true }
def SettleLateUptoSaid : Prop := settleLateUptoRow.holds Tryd.pinned (OpenSpec.upto settleLateSpec)

/-- 'cablewaylaw10.TablePlays', WHERE WHAT IT READS IS OF BULK AT MOST 1048576: true; the input reads as it did. -/
def tablePlaysUptoRow : OpenClaim := { program := "ythonkcldddfpnaadoor", sum := "1045e65d9d7171bb544ea36cf9a610c7233741dc163aa1a179a649f90d1ff386", func := "cableway/cablewaylaw10.TablePlays", spec := "tablePlays", named := ["cableway/slot.state", "cableway/slot.gen"], apart := false, laid := [("cableway/slot.gen", laid_cableway_slot_gen), ("cableway/slot.state", laid_cableway_slot_state)], narrowed := true }
def TablePlaysUptoSaid : Prop := tablePlaysUptoRow.holds Tryd.pinned (OpenSpec.upto tablePlaysSpec)

/-- 'cablewaylaw10.TableMay', WHERE WHAT IT READS IS OF BULK AT MOST 1048576: true; the input reads as it did. -/
def tableMayUptoRow : OpenClaim := { program := "ythonkcldddfpnaadoor", sum := "1045e65d9d7171bb544ea36cf9a610c7233741dc163aa1a179a649f90d1ff386", func := "cableway/cablewaylaw10.TableMay", spec := "tableMay", named := ["cableway/slot.state", "cableway/slot.gen"], apart := false, laid := [("cableway/slot.gen", laid_cableway_slot_gen), ("cableway/slot.state", laid_cableway_slot_state)], narrowed := true }
def TableMayUptoSaid : Prop := tableMayUptoRow.holds Tryd.pinned (OpenSpec.upto tableMaySpec)

end Rows
end Go.Proofs.YthonkcldddfpnaaDoor
