/-
  No cell of these rows narrows 'for every input' (looked for: loops, veiled, ifaces, maps, wideKeys, modest, calm, conditions, laid).
  DERIVED. THE GIVEN ROWS OF THIS SEAT. 12 by the template 'for every input the law returns true; each argument reads behind the call as it read before'; 0 by the template 'total and deterministic' (their statements: YtnnelmjlmjedhaaTotals.lean).
  GIVEN WITH THE SEED: the statements are not yours to turn. If you find one false, say at which input.
  Laid BY PROGRAM, IN A SANDBOX (cutbox-rows.mjs): the forced cells as the released guide's own fill.sh prints them over the translation 17212d2c2bef9eb2… (all of the seat's roots in one cut). By AI agents, Wed Nov 11 2026. No macro, syntax, notation, axiom, sorry.
-/
import Derived.Test.YtnnelmjlmjedhaaChecked
import GoSem.Claim
import GoSem.ClaimJoined
import GoSem.ClaimMapViews
import Derived.JoinedTies
import Derived.KernelRfl
namespace Go.Proofs.Ytnnelmjlmjedhaa
/- THE CELL 'sum', in the pinned program and in every row, IS THE sha256 OF THE DUMP (.gsa) THAT YtnnelmjlmjedhaaProg.lean LOADS. Nothing in Lean hashes anything: it is a label: what it is worth is what the hold of that sum in a sandbox is worth. -/
noncomputable def Try.pinned : Pinned := { name := "ytnnelmjlmjedhaa", sum := "17212d2c2bef9eb20dc7629003689f98a3a0e56da5a4d62375f750c150b73811", checked := Try.checked }
namespace Rows
def none {H : Type} : Left H := { results := [], args := [] }

/-- 'cablewaylaw02.ArenaPlays': WHATEVER THE INPUT: true; the input reads as it did. -/
def arenaPlaysSpec : ChangeSpec := { name := "arenaPlays", fn := fun _ => fun
  | [d1, d2] => { results := [.lit (.bool true)], args := [d1, d2] }
  | _ => none }
def arenaPlaysRow : OpenClaim := { program := "ytnnelmjlmjedhaa", sum := "17212d2c2bef9eb20dc7629003689f98a3a0e56da5a4d62375f750c150b73811", func := "cableway/cablewaylaw02.ArenaPlays", spec := "arenaPlays", apart := false }
def ArenaPlaysSaid : Prop := arenaPlaysRow.holds Try.pinned (OpenSpec.ofChange arenaPlaysSpec)

/-- ITS FALSE NEIGHBOUR: 'it returns false'. Refute it at one input. -/
def arenaPlaysWrong : ChangeSpec := { name := "arenaPlays", fn := fun _ => fun
  | [d1, d2] => { results := [.lit (.bool false)], args := [d1, d2] }
  | _ => none }
def ArenaPlaysWrongFalsely : Prop := arenaPlaysRow.holds Try.pinned (OpenSpec.ofChange arenaPlaysWrong)

/-- 'cablewaylaw02.ArenaNone': WHATEVER THE INPUT: true; the input reads as it did. -/
def arenaNoneSpec : ChangeSpec := { name := "arenaNone", fn := fun _ => fun
  | [d1, d2] => { results := [.lit (.bool true)], args := [d1, d2] }
  | _ => none }
def arenaNoneRow : OpenClaim := { program := "ytnnelmjlmjedhaa", sum := "17212d2c2bef9eb20dc7629003689f98a3a0e56da5a4d62375f750c150b73811", func := "cableway/cablewaylaw02.ArenaNone", spec := "arenaNone", apart := false }
def ArenaNoneSaid : Prop := arenaNoneRow.holds Try.pinned (OpenSpec.ofChange arenaNoneSpec)

/-- ITS FALSE NEIGHBOUR: 'it returns false'. Refute it at one input. -/
def arenaNoneWrong : ChangeSpec := { name := "arenaNone", fn := fun _ => fun
  | [d1, d2] => { results := [.lit (.bool false)], args := [d1, d2] }
  | _ => none }
def ArenaNoneWrongFalsely : Prop := arenaNoneRow.holds Try.pinned (OpenSpec.ofChange arenaNoneWrong)

/-- 'cablewaylaw02.ArenaSwaps': WHATEVER THE INPUT: true; the input reads as it did. -/
def arenaSwapsSpec : ChangeSpec := { name := "arenaSwaps", fn := fun _ => fun
  | [d1, d2] => { results := [.lit (.bool true)], args := [d1, d2] }
  | _ => none }
def arenaSwapsRow : OpenClaim := { program := "ytnnelmjlmjedhaa", sum := "17212d2c2bef9eb20dc7629003689f98a3a0e56da5a4d62375f750c150b73811", func := "cableway/cablewaylaw02.ArenaSwaps", spec := "arenaSwaps", apart := false }
def ArenaSwapsSaid : Prop := arenaSwapsRow.holds Try.pinned (OpenSpec.ofChange arenaSwapsSpec)

/-- ITS FALSE NEIGHBOUR: 'it returns false'. Refute it at one input. -/
def arenaSwapsWrong : ChangeSpec := { name := "arenaSwaps", fn := fun _ => fun
  | [d1, d2] => { results := [.lit (.bool false)], args := [d1, d2] }
  | _ => none }
def ArenaSwapsWrongFalsely : Prop := arenaSwapsRow.holds Try.pinned (OpenSpec.ofChange arenaSwapsWrong)

/-- 'cablewaylaw47.FifoRight': WHATEVER THE INPUT: true; the input reads as it did. -/
def fifoRightSpec : ChangeSpec := { name := "fifoRight", fn := fun _ => fun
  | [d1, d2] => { results := [.lit (.bool true)], args := [d1, d2] }
  | _ => none }
def fifoRightRow : OpenClaim := { program := "ytnnelmjlmjedhaa", sum := "17212d2c2bef9eb20dc7629003689f98a3a0e56da5a4d62375f750c150b73811", func := "cableway/cablewaylaw47.FifoRight", spec := "fifoRight", apart := false }
def FifoRightSaid : Prop := fifoRightRow.holds Try.pinned (OpenSpec.ofChange fifoRightSpec)

/-- ITS FALSE NEIGHBOUR: 'it returns false'. Refute it at one input. -/
def fifoRightWrong : ChangeSpec := { name := "fifoRight", fn := fun _ => fun
  | [d1, d2] => { results := [.lit (.bool false)], args := [d1, d2] }
  | _ => none }
def FifoRightWrongFalsely : Prop := fifoRightRow.holds Try.pinned (OpenSpec.ofChange fifoRightWrong)

/-- 'cablewaylaw47.FifoBent': WHATEVER THE INPUT: true; the input reads as it did. -/
def fifoBentSpec : ChangeSpec := { name := "fifoBent", fn := fun _ => fun
  | [d1, d2, d3] => { results := [.lit (.bool true)], args := [d1, d2, d3] }
  | _ => none }
def fifoBentRow : OpenClaim := { program := "ytnnelmjlmjedhaa", sum := "17212d2c2bef9eb20dc7629003689f98a3a0e56da5a4d62375f750c150b73811", func := "cableway/cablewaylaw47.FifoBent", spec := "fifoBent", apart := false }
def FifoBentSaid : Prop := fifoBentRow.holds Try.pinned (OpenSpec.ofChange fifoBentSpec)

/-- ITS FALSE NEIGHBOUR: 'it returns false'. Refute it at one input. -/
def fifoBentWrong : ChangeSpec := { name := "fifoBent", fn := fun _ => fun
  | [d1, d2, d3] => { results := [.lit (.bool false)], args := [d1, d2, d3] }
  | _ => none }
def FifoBentWrongFalsely : Prop := fifoBentRow.holds Try.pinned (OpenSpec.ofChange fifoBentWrong)

/-- 'cablewaylaw34.ScriptPuts': WHATEVER THE INPUT: true; the input reads as it did. -/
def scriptPutsSpec : ChangeSpec := { name := "scriptPuts", fn := fun _ => fun
  | [d1, d2] => { results := [.lit (.bool true)], args := [d1, d2] }
  | _ => none }
def scriptPutsRow : OpenClaim := { program := "ytnnelmjlmjedhaa", sum := "17212d2c2bef9eb20dc7629003689f98a3a0e56da5a4d62375f750c150b73811", func := "cableway/cablewaylaw34.ScriptPuts", spec := "scriptPuts", apart := false }
def ScriptPutsSaid : Prop := scriptPutsRow.holds Try.pinned (OpenSpec.ofChange scriptPutsSpec)

/-- ITS FALSE NEIGHBOUR: 'it returns false'. Refute it at one input. -/
def scriptPutsWrong : ChangeSpec := { name := "scriptPuts", fn := fun _ => fun
  | [d1, d2] => { results := [.lit (.bool false)], args := [d1, d2] }
  | _ => none }
def ScriptPutsWrongFalsely : Prop := scriptPutsRow.holds Try.pinned (OpenSpec.ofChange scriptPutsWrong)

/-- 'cablewaylaw34.ScriptMost': WHATEVER THE INPUT: true; the input reads as it did. -/
def scriptMostSpec : ChangeSpec := { name := "scriptMost", fn := fun _ => fun
  | [d] => { results := [.lit (.bool true)], args := [d] }
  | _ => none }
def scriptMostRow : OpenClaim := { program := "ytnnelmjlmjedhaa", sum := "17212d2c2bef9eb20dc7629003689f98a3a0e56da5a4d62375f750c150b73811", func := "cableway/cablewaylaw34.ScriptMost", spec := "scriptMost", apart := false }
def ScriptMostSaid : Prop := scriptMostRow.holds Try.pinned (OpenSpec.ofChange scriptMostSpec)

/-- ITS FALSE NEIGHBOUR: 'it returns false'. Refute it at one input. -/
def scriptMostWrong : ChangeSpec := { name := "scriptMost", fn := fun _ => fun
  | [d] => { results := [.lit (.bool false)], args := [d] }
  | _ => none }
def ScriptMostWrongFalsely : Prop := scriptMostRow.holds Try.pinned (OpenSpec.ofChange scriptMostWrong)

/-- 'cablewaylaw34.ScriptAll': WHATEVER THE INPUT: true; the input reads as it did. -/
def scriptAllSpec : ChangeSpec := { name := "scriptAll", fn := fun _ => fun
  | [d1, d2, d3] => { results := [.lit (.bool true)], args := [d1, d2, d3] }
  | _ => none }
def scriptAllRow : OpenClaim := { program := "ytnnelmjlmjedhaa", sum := "17212d2c2bef9eb20dc7629003689f98a3a0e56da5a4d62375f750c150b73811", func := "cableway/cablewaylaw34.ScriptAll", spec := "scriptAll", apart := false }
def ScriptAllSaid : Prop := scriptAllRow.holds Try.pinned (OpenSpec.ofChange scriptAllSpec)

/-- ITS FALSE NEIGHBOUR: 'it returns false'. Refute it at one input. -/
def scriptAllWrong : ChangeSpec := { name := "scriptAll", fn := fun _ => fun
  | [d1, d2, d3] => { results := [.lit (.bool false)], args := [d1, d2, d3] }
  | _ => none }
def ScriptAllWrongFalsely : Prop := scriptAllRow.holds Try.pinned (OpenSpec.ofChange scriptAllWrong)

/-- 'cablewaylaw44.DrillDraws': WHATEVER THE INPUT: true; the input reads as it did. -/
def drillDrawsSpec : ChangeSpec := { name := "drillDraws", fn := fun _ => fun
  | [d1, d2] => { results := [.lit (.bool true)], args := [d1, d2] }
  | _ => none }
def drillDrawsRow : OpenClaim := { program := "ytnnelmjlmjedhaa", sum := "17212d2c2bef9eb20dc7629003689f98a3a0e56da5a4d62375f750c150b73811", func := "cableway/cablewaylaw44.DrillDraws", spec := "drillDraws", apart := false }
def DrillDrawsSaid : Prop := drillDrawsRow.holds Try.pinned (OpenSpec.ofChange drillDrawsSpec)

/-- ITS FALSE NEIGHBOUR: 'it returns false'. Refute it at one input. -/
def drillDrawsWrong : ChangeSpec := { name := "drillDraws", fn := fun _ => fun
  | [d1, d2] => { results := [.lit (.bool false)], args := [d1, d2] }
  | _ => none }
def DrillDrawsWrongFalsely : Prop := drillDrawsRow.holds Try.pinned (OpenSpec.ofChange drillDrawsWrong)

/-- 'cablewaylaw44.DrillScripts': WHATEVER THE INPUT: true; the input reads as it did. -/
def drillScriptsSpec : ChangeSpec := { name := "drillScripts", fn := fun _ => fun
  | [d1, d2, d3] => { results := [.lit (.bool true)], args := [d1, d2, d3] }
  | _ => none }
def drillScriptsRow : OpenClaim := { program := "ytnnelmjlmjedhaa", sum := "17212d2c2bef9eb20dc7629003689f98a3a0e56da5a4d62375f750c150b73811", func := "cableway/cablewaylaw44.DrillScripts", spec := "drillScripts", apart := false }
def DrillScriptsSaid : Prop := drillScriptsRow.holds Try.pinned (OpenSpec.ofChange drillScriptsSpec)

/-- ITS FALSE NEIGHBOUR: 'it returns false'. Refute it at one input. -/
def drillScriptsWrong : ChangeSpec := { name := "drillScripts", fn := fun _ => fun
  | [d1, d2, d3] => { results := [.lit (.bool false)], args := [d1, d2, d3] }
  | _ => none }
def DrillScriptsWrongFalsely : Prop := drillScriptsRow.holds Try.pinned (OpenSpec.ofChange drillScriptsWrong)

/-- 'cablewaylaw12.DueMost': WHATEVER THE INPUT: true; the input reads as it did. -/
def dueMostSpec : ChangeSpec := { name := "dueMost", fn := fun _ => fun
  | [d1, d2] => { results := [.lit (.bool true)], args := [d1, d2] }
  | _ => none }
def dueMostRow : OpenClaim := { program := "ytnnelmjlmjedhaa", sum := "17212d2c2bef9eb20dc7629003689f98a3a0e56da5a4d62375f750c150b73811", func := "cableway/cablewaylaw12.DueMost", spec := "dueMost", unfollowed := true, recurses := true, apart := false }
def DueMostSaid : Prop := dueMostRow.holds Try.pinned (OpenSpec.ofChange dueMostSpec)

/-- ITS FALSE NEIGHBOUR: 'it returns false'. Refute it at one input. -/
def dueMostWrong : ChangeSpec := { name := "dueMost", fn := fun _ => fun
  | [d1, d2] => { results := [.lit (.bool false)], args := [d1, d2] }
  | _ => none }
def DueMostWrongFalsely : Prop := dueMostRow.holds Try.pinned (OpenSpec.ofChange dueMostWrong)

/-- 'cablewaylaw12.DuePlays': WHATEVER THE INPUT: true; the input reads as it did. -/
def duePlaysSpec : ChangeSpec := { name := "duePlays", fn := fun _ => fun
  | [d] => { results := [.lit (.bool true)], args := [d] }
  | _ => none }
def duePlaysRow : OpenClaim := { program := "ytnnelmjlmjedhaa", sum := "17212d2c2bef9eb20dc7629003689f98a3a0e56da5a4d62375f750c150b73811", func := "cableway/cablewaylaw12.DuePlays", spec := "duePlays", unfollowed := true, recurses := true, apart := false }
def DuePlaysSaid : Prop := duePlaysRow.holds Try.pinned (OpenSpec.ofChange duePlaysSpec)

/-- ITS FALSE NEIGHBOUR: 'it returns false'. Refute it at one input. -/
def duePlaysWrong : ChangeSpec := { name := "duePlays", fn := fun _ => fun
  | [d] => { results := [.lit (.bool false)], args := [d] }
  | _ => none }
def DuePlaysWrongFalsely : Prop := duePlaysRow.holds Try.pinned (OpenSpec.ofChange duePlaysWrong)

/- THE SECOND FORM. 'bulk': how many values and letters a reading holds, each counted each time it is reached (what is shared counts as often as it is met; a slice's spare places count too). A statement '..UptoSaid' is the law's where the arguments, and the package variables that the reading takes, are together of bulk at most 1048576: NARROWER than '..Said'. Prove '..Said' where nothing that the law and all that it calls make is longer than what came in: it says more and counts as full. Else prove '..UptoSaid'. A law counts once. -/
mutual
def uptoBulk {H : Type} : DataW H → Nat
  | .lit (.string bytes) => bytes.length + 1
  | .lit _ => 1
  | .nil => 1
  | .ptr d => uptoBulk d + 1
  | .slice elems spare => uptoBulkAll elems + uptoBulkAll spare + 1
  | .agg parts => uptoBulkAll parts + 1
  | .iface _ d => uptoBulk d + 1
  | .map entries => uptoBulkEntries entries + 1
  | .held _ => 1
def uptoBulkAll {H : Type} : List (DataW H) → Nat
  | [] => 0
  | d :: r => uptoBulk d + uptoBulkAll r
def uptoBulkEntries {H : Type} : List (Lit × DataW H) → Nat
  | [] => 0
  | x :: r => uptoBulkEntry x + uptoBulkEntries r
def uptoBulkEntry {H : Type} : Lit × DataW H → Nat
  | (.string bytes, d) => bytes.length + uptoBulk d + 1
  | (_, d) => uptoBulk d + 1
 end
def uptoSmall : (H : Type) → List (DataW H) → Bool := fun _ ds => decide (uptoBulkAll ds ≤ 1048576)
def OpenSpec.upto (s : _root_.Go.ChangeSpec) : _root_.Go.OpenSpec := { _root_.Go.OpenSpec.ofChange s with cond := some uptoSmall }

/-- 'cablewaylaw02.ArenaPlays', WHERE WHAT IT READS IS OF BULK AT MOST 1048576: true; the input reads as it did. -/
def arenaPlaysUptoRow : OpenClaim := { program := "ytnnelmjlmjedhaa", sum := "17212d2c2bef9eb20dc7629003689f98a3a0e56da5a4d62375f750c150b73811", func := "cableway/cablewaylaw02.ArenaPlays", spec := "arenaPlays", apart := false, narrowed := true }
def ArenaPlaysUptoSaid : Prop := arenaPlaysUptoRow.holds Try.pinned (OpenSpec.upto arenaPlaysSpec)

/-- 'cablewaylaw02.ArenaNone', WHERE WHAT IT READS IS OF BULK AT MOST 1048576: true; the input reads as it did. -/
def arenaNoneUptoRow : OpenClaim := { program := "ytnnelmjlmjedhaa", sum := "17212d2c2bef9eb20dc7629003689f98a3a0e56da5a4d62375f750c150b73811", func := "cableway/cablewaylaw02.ArenaNone", spec := "arenaNone", apart := false, narrowed := true }
def ArenaNoneUptoSaid : Prop := arenaNoneUptoRow.holds Try.pinned (OpenSpec.upto arenaNoneSpec)

/-- 'cablewaylaw02.ArenaSwaps', WHERE WHAT IT READS IS OF BULK AT MOST 1048576: true; the input reads as it did. -/
def arenaSwapsUptoRow : OpenClaim := { program := "ytnnelmjlmjedhaa", sum := "17212d2c2bef9eb20dc7629003689f98a3a0e56da5a4d62375f750c150b73811", func := "cableway/cablewaylaw02.ArenaSwaps", spec := "arenaSwaps", apart := false, narrowed := true }
def ArenaSwapsUptoSaid : Prop := arenaSwapsUptoRow.holds Try.pinned (OpenSpec.upto arenaSwapsSpec)

/-- 'cablewaylaw47.FifoRight', WHERE WHAT IT READS IS OF BULK AT MOST 1048576: true; the input reads as it did. -/
def fifoRightUptoRow : OpenClaim := { program := "ytnnelmjlmjedhaa", sum := "17212d2c2bef9eb20dc7629003689f98a3a0e56da5a4d62375f750c150b73811", func := "cableway/cablewaylaw47.FifoRight", spec := "fifoRight", apart := false, narrowed := true }
def FifoRightUptoSaid : Prop := fifoRightUptoRow.holds Try.pinned (OpenSpec.upto fifoRightSpec)

/-- 'cablewaylaw47.FifoBent', WHERE WHAT IT READS IS OF BULK AT MOST 1048576: true; the input reads as it did. -/
def fifoBentUptoRow : OpenClaim := { program := "ytnnelmjlmjedhaa", sum := "17212d2c2bef9eb20dc7629003689f98a3a0e56da5a4d62375f750c150b73811", func := "cableway/cablewaylaw47.FifoBent", spec := "fifoBent", apart := false, narrowed := true }
def FifoBentUptoSaid : Prop := fifoBentUptoRow.holds Try.pinned (OpenSpec.upto fifoBentSpec)

/-- 'cablewaylaw34.ScriptPuts', WHERE WHAT IT READS IS OF BULK AT MOST 1048576: true; the input reads as it did. -/
def scriptPutsUptoRow : OpenClaim := { program := "ytnnelmjlmjedhaa", sum := "17212d2c2bef9eb20dc7629003689f98a3a0e56da5a4d62375f750c150b73811", func := "cableway/cablewaylaw34.ScriptPuts", spec := "scriptPuts", apart := false, narrowed := true }
def ScriptPutsUptoSaid : Prop := scriptPutsUptoRow.holds Try.pinned (OpenSpec.upto scriptPutsSpec)

/-- 'cablewaylaw34.ScriptMost', WHERE WHAT IT READS IS OF BULK AT MOST 1048576: true; the input reads as it did. -/
def scriptMostUptoRow : OpenClaim := { program := "ytnnelmjlmjedhaa", sum := "17212d2c2bef9eb20dc7629003689f98a3a0e56da5a4d62375f750c150b73811", func := "cableway/cablewaylaw34.ScriptMost", spec := "scriptMost", apart := false, narrowed := true }
def ScriptMostUptoSaid : Prop := scriptMostUptoRow.holds Try.pinned (OpenSpec.upto scriptMostSpec)

/-- 'cablewaylaw34.ScriptAll', WHERE WHAT IT READS IS OF BULK AT MOST 1048576: true; the input reads as it did. -/
def scriptAllUptoRow : OpenClaim := { program := "ytnnelmjlmjedhaa", sum := "17212d2c2bef9eb20dc7629003689f98a3a0e56da5a4d62375f750c150b73811", func := "cableway/cablewaylaw34.ScriptAll", spec := "scriptAll", apart := false, narrowed := true }
def ScriptAllUptoSaid : Prop := scriptAllUptoRow.holds Try.pinned (OpenSpec.upto scriptAllSpec)

/-- 'cablewaylaw44.DrillDraws', WHERE WHAT IT READS IS OF BULK AT MOST 1048576: true; the input reads as it did. -/
def drillDrawsUptoRow : OpenClaim := { program := "ytnnelmjlmjedhaa", sum := "17212d2c2bef9eb20dc7629003689f98a3a0e56da5a4d62375f750c150b73811", func := "cableway/cablewaylaw44.DrillDraws", spec := "drillDraws", apart := false, narrowed := true }
def DrillDrawsUptoSaid : Prop := drillDrawsUptoRow.holds Try.pinned (OpenSpec.upto drillDrawsSpec)

/-- 'cablewaylaw44.DrillScripts', WHERE WHAT IT READS IS OF BULK AT MOST 1048576: true; the input reads as it did. -/
def drillScriptsUptoRow : OpenClaim := { program := "ytnnelmjlmjedhaa", sum := "17212d2c2bef9eb20dc7629003689f98a3a0e56da5a4d62375f750c150b73811", func := "cableway/cablewaylaw44.DrillScripts", spec := "drillScripts", apart := false, narrowed := true }
def DrillScriptsUptoSaid : Prop := drillScriptsUptoRow.holds Try.pinned (OpenSpec.upto drillScriptsSpec)

/-- 'cablewaylaw12.DueMost', WHERE WHAT IT READS IS OF BULK AT MOST 1048576: true; the input reads as it did. -/
def dueMostUptoRow : OpenClaim := { program := "ytnnelmjlmjedhaa", sum := "17212d2c2bef9eb20dc7629003689f98a3a0e56da5a4d62375f750c150b73811", func := "cableway/cablewaylaw12.DueMost", spec := "dueMost", unfollowed := true, recurses := true, apart := false, narrowed := true }
def DueMostUptoSaid : Prop := dueMostUptoRow.holds Try.pinned (OpenSpec.upto dueMostSpec)

/-- 'cablewaylaw12.DuePlays', WHERE WHAT IT READS IS OF BULK AT MOST 1048576: true; the input reads as it did. -/
def duePlaysUptoRow : OpenClaim := { program := "ytnnelmjlmjedhaa", sum := "17212d2c2bef9eb20dc7629003689f98a3a0e56da5a4d62375f750c150b73811", func := "cableway/cablewaylaw12.DuePlays", spec := "duePlays", unfollowed := true, recurses := true, apart := false, narrowed := true }
def DuePlaysUptoSaid : Prop := duePlaysUptoRow.holds Try.pinned (OpenSpec.upto duePlaysSpec)

end Rows
end Go.Proofs.Ytnnelmjlmjedhaa
