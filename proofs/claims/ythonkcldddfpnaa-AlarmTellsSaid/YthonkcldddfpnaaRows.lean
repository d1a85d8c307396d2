/-
  No cell of these rows narrows 'for every input' (looked for: loops, veiled, ifaces, maps, wideKeys, modest, calm, conditions, laid).
  DERIVED. THE GIVEN ROWS OF THIS SEAT. 2 by the template 'for every input the law returns true; each argument reads behind the call as it read before'; 0 by the template 'total and deterministic' (their statements: YthonkcldddfpnaaTotals.lean).
  GIVEN WITH THE SEED: the statements are not yours to turn. If you find one false, say at which input.
  Laid BY PROGRAM, IN A SANDBOX (cutbox-rows.mjs): the forced cells as the released guide's own fill.sh prints them over the translation df36a4ed36a0a4f8… (all of the seat's roots in one cut). By AI agents, Wed Nov 11 2026. No macro, syntax, notation, axiom, sorry.
-/
import Derived.Test.YthonkcldddfpnaaChecked
import GoSem.Claim
import GoSem.ClaimJoined
import GoSem.ClaimMapViews
import Derived.JoinedTies
import Derived.KernelRfl
namespace Go.Proofs.Ythonkcldddfpnaa
/- THE CELL 'sum', in the pinned program and in every row, IS THE sha256 OF THE DUMP (.gsa) THAT YthonkcldddfpnaaProg.lean LOADS. Nothing in Lean hashes anything: it is a label: what it is worth is what the hold of that sum in a sandbox is worth. -/
noncomputable def Try.pinned : Pinned := { name := "ythonkcldddfpnaa", sum := "df36a4ed36a0a4f87aec4b5d0f9b3cc87e4cbd21ae31706d8337ef8a803d616b", checked := Try.checked }
namespace Rows
def none {H : Type} : Left H := { results := [], args := [] }

/-- 'cablewaylaw14.AlarmAsks': WHATEVER THE INPUT: true; the input reads as it did. -/
def alarmAsksSpec : ChangeSpec := { name := "alarmAsks", fn := fun _ => fun
  | [d1, d2] => { results := [.lit (.bool true)], args := [d1, d2] }
  | _ => none }
def alarmAsksRow : OpenClaim := { program := "ythonkcldddfpnaa", sum := "df36a4ed36a0a4f87aec4b5d0f9b3cc87e4cbd21ae31706d8337ef8a803d616b", func := "cableway/cablewaylaw14.AlarmAsks", spec := "alarmAsks", apart := false }
def AlarmAsksSaid : Prop := alarmAsksRow.holds Try.pinned (OpenSpec.ofChange alarmAsksSpec)

/-- ITS FALSE NEIGHBOUR: 'it returns false'. Refute it at one input. -/
def alarmAsksWrong : ChangeSpec := { name := "alarmAsks", fn := fun _ => fun
  | [d1, d2] => { results := [.lit (.bool false)], args := [d1, d2] }
  | _ => none }
def AlarmAsksWrongFalsely : Prop := alarmAsksRow.holds Try.pinned (OpenSpec.ofChange alarmAsksWrong)

/-- 'cablewaylaw14.AlarmTells': WHATEVER THE INPUT: true; the input reads as it did. -/
def alarmTellsSpec : ChangeSpec := { name := "alarmTells", fn := fun _ => fun
  | [d1, d2, d3] => { results := [.lit (.bool true)], args := [d1, d2, d3] }
  | _ => none }
def alarmTellsRow : OpenClaim := { program := "ythonkcldddfpnaa", sum := "df36a4ed36a0a4f87aec4b5d0f9b3cc87e4cbd21ae31706d8337ef8a803d616b", func := "cableway/cablewaylaw14.AlarmTells", spec := "alarmTells", apart := false }
def AlarmTellsSaid : Prop := alarmTellsRow.holds Try.pinned (OpenSpec.ofChange alarmTellsSpec)

/-- ITS FALSE NEIGHBOUR: 'it returns false'. Refute it at one input. -/
def alarmTellsWrong : ChangeSpec := { name := "alarmTells", fn := fun _ => fun
  | [d1, d2, d3] => { results := [.lit (.bool false)], args := [d1, d2, d3] }
  | _ => none }
def AlarmTellsWrongFalsely : Prop := alarmTellsRow.holds Try.pinned (OpenSpec.ofChange alarmTellsWrong)

/- THE SECOND FORM. 'bulk': how many values and letters a reading holds, each counted each time it is reached (what is shared counts as often as it is met; a slice's spare places count too). A statement '..UptoSaid' is the law's where the arguments, and the package variables that the reading takes, are together of bulk at most 1048576: NARROWER than '..Said'. Prove '..Said' where nothing that the law and all that it calls make is longer than what came in: it says more and counts as full. Else prove '..UptoSaid'. A law counts once. -/
mutual
def uptoBulk {H : Type} : DataW H → Nat
  | .lit (.string bytes) => bytes.length + 1
  | .lit _ => 1
  | .nil => 1
  | .ptr d => uptoBulk d + 1
  | .slice elems spare => uptoBulkAll elems + uptoBulkAll spare + 1
  | .agg parts => uptoBulkAll parts + 1
  | .iface _ d => uptoBulk d + 1
  | .map entries => uptoBulkEntries entries + 1
  | .held _ => 1
def uptoBulkAll {H : Type} : List (DataW H) → Nat
  | [] => 0
  | d :: r => uptoBulk d + uptoBulkAll r
def uptoBulkEntries {H : Type} : List (Lit × DataW H) → Nat
  | [] => 0
  | x :: r => uptoBulkEntry x + uptoBulkEntries r
def uptoBulkEntry {H : Type} : Lit × DataW H → Nat
  | (.string bytes, d) => bytes.length + uptoBulk d + 1
  | (_, d) => uptoBulk d + 1
 end
def uptoSmall : (H : Type) → List (DataW H) → Bool := fun _ ds => decide (uptoBulkAll ds ≤ 1048576)
def OpenSpec.upto (s : _root_.Go.ChangeSpec) : _root_.Go.OpenSpec := { _root_.Go.OpenSpec.ofChange s with cond := some uptoSmall }

/-- 'cablewaylaw14.AlarmAsks', WHERE WHAT IT READS IS OF BULK AT MOST 1048576: true; the input reads as it did. -/
def alarmAsksUptoRow : OpenClaim := { program := "ythonkcldddfpnaa", sum := "df36a4ed36a0a4f87aec4b5d0f9b3cc87e4cbd21ae31706d8337ef8a803d616b", func := "cableway/cablewaylaw14.AlarmAsks", spec := "alarmAsks", apart := false, narrowed := true }
def AlarmAsksUptoSaid : Prop := alarmAsksUptoRow.holds Try.pinned (OpenSpec.upto alarmAsksSpec)

/-- 'cablewaylaw14.AlarmTells', WHERE WHAT IT READS IS OF BULK AT MOST 1048576: true; the input reads as it did. -/
def alarmTellsUptoRow : OpenClaim := { program := "ythonkcldddfpnaa", sum := "df36a4ed36a0a4f87aec4b5d0f9b3cc87e4cbd21ae31706d8337ef8a803d616b", func := "cableway/cablewaylaw14.AlarmTells", spec := "alarmTells", apart := false, narrowed := true }
def AlarmTellsUptoSaid : Prop := alarmTellsUptoRow.holds Try.pinned (OpenSpec.upto alarmTellsSpec)

end Rows
end Go.Proofs.Ythonkcldddfpnaa
