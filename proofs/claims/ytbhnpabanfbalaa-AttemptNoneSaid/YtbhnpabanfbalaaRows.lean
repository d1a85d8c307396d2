/-
  No cell of these rows narrows 'for every input' (looked for: loops, veiled, ifaces, maps, wideKeys, modest, calm, conditions, laid).
  DERIVED. THE GIVEN ROWS OF THIS SEAT. 3 by the template 'for every input the law returns true; each argument reads behind the call as it read before'; 0 by the template 'total and deterministic' (their statements: YtbhnpabanfbalaaTotals.lean).
  GIVEN WITH THE SEED: the statements are not yours to turn. If you find one false, say at which input.
  Laid BY PROGRAM, IN A SANDBOX (cutbox-rows.mjs): the forced cells as the released guide's own fill.sh prints them over the translation 99bb217b2005e505… (all of the seat's roots in one cut). By AI agents, Wed Nov 11 2026. No macro, syntax, notation, axiom, sorry.
-/
import Derived.Test.YtbhnpabanfbalaaChecked
import GoSem.Claim
import GoSem.ClaimJoined
import GoSem.ClaimMapViews
import Derived.JoinedTies
import Derived.KernelRfl
namespace Go.Proofs.Ytbhnpabanfbalaa
/- THE CELL 'sum', in the pinned program and in every row, IS THE sha256 OF THE DUMP (.gsa) THAT YtbhnpabanfbalaaProg.lean LOADS. Nothing in Lean hashes anything: it is a label: what it is worth is what the hold of that sum in a sandbox is worth. -/
noncomputable def Try.pinned : Pinned := { name := "ytbhnpabanfbalaa", sum := "99bb217b2005e505ce15d3de076271313a8eaaba9c82a00ade417e31ab166d81", checked := Try.checked }
namespace Rows
def none {H : Type} : Left H := { results := [], args := [] }

/-- 'cablewaylaw20.AttemptNone': WHATEVER THE INPUT: true; the input reads as it did. -/
def attemptNoneSpec : ChangeSpec := { name := "attemptNone", fn := fun _ => fun
  | [d1, d2, d3] => { results := [.lit (.bool true)], args := [d1, d2, d3] }
  | _ => none }
def attemptNoneRow : OpenClaim := { program := "ytbhnpabanfbalaa", sum := "99bb217b2005e505ce15d3de076271313a8eaaba9c82a00ade417e31ab166d81", func := "cableway/cablewaylaw20.AttemptNone", spec := "attemptNone", apart := false }
def AttemptNoneSaid : Prop := attemptNoneRow.holds Try.pinned (OpenSpec.ofChange attemptNoneSpec)

/-- ITS FALSE NEIGHBOUR: 'it returns false'. Refute it at one input. -/
def attemptNoneWrong : ChangeSpec := { name := "attemptNone", fn := fun _ => fun
  | [d1, d2, d3] => { results := [.lit (.bool false)], args := [d1, d2, d3] }
  | _ => none }
def AttemptNoneWrongFalsely : Prop := attemptNoneRow.holds Try.pinned (OpenSpec.ofChange attemptNoneWrong)

/-- 'cablewaylaw20.AttemptTries': WHATEVER THE INPUT: true; the input reads as it did. -/
def attemptTriesSpec : ChangeSpec := { name := "attemptTries", fn := fun _ => fun
  | [d1, d2, d3] => { results := [.lit (.bool true)], args := [d1, d2, d3] }
  | _ => none }
def attemptTriesRow : OpenClaim := { program := "ytbhnpabanfbalaa", sum := "99bb217b2005e505ce15d3de076271313a8eaaba9c82a00ade417e31ab166d81", func := "cableway/cablewaylaw20.AttemptTries", spec := "attemptTries", apart := false }
def AttemptTriesSaid : Prop := attemptTriesRow.holds Try.pinned (OpenSpec.ofChange attemptTriesSpec)

/-- ITS FALSE NEIGHBOUR: 'it returns false'. Refute it at one input. -/
def attemptTriesWrong : ChangeSpec := { name := "attemptTries", fn := fun _ => fun
  | [d1, d2, d3] => { results := [.lit (.bool false)], args := [d1, d2, d3] }
  | _ => none }
def AttemptTriesWrongFalsely : Prop := attemptTriesRow.holds Try.pinned (OpenSpec.ofChange attemptTriesWrong)

/-- 'cablewaylaw50.TuneFits': WHATEVER THE INPUT: true; the input reads as it did. -/
def tuneFitsSpec : ChangeSpec := { name := "tuneFits", fn := fun _ => fun
  | [d] => { results := [.lit (.bool true)], args := [d] }
  | _ => none }
def tuneFitsRow : OpenClaim := { program := "ytbhnpabanfbalaa", sum := "99bb217b2005e505ce15d3de076271313a8eaaba9c82a00ade417e31ab166d81", func := "cableway/cablewaylaw50.TuneFits", spec := "tuneFits", unfollowed := true, recurses := true, apart := false }
def TuneFitsSaid : Prop := tuneFitsRow.holds Try.pinned (OpenSpec.ofChange tuneFitsSpec)

/-- ITS FALSE NEIGHBOUR: 'it returns false'. Refute it at one input. -/
def tuneFitsWrong : ChangeSpec := { name := "tuneFits", fn := fun _ => fun
  | [d] => { results := [.lit (.bool false)], args := [d] }
  | _ => none }
def TuneFitsWrongFalsely : Prop := tuneFitsRow.holds Try.pinned (OpenSpec.ofChange tuneFitsWrong)

/- THE SECOND FORM. 'bulk': how many values and letters a reading holds, each counted each time it is reached (what is shared counts as often as it is met; a slice's spare places count too). A statement '..UptoSaid' is the law's where the arguments, and the package variables that the reading takes, are together of bulk at most 1048576: NARROWER than '..Said'. Prove '..Said' where nothing that the law and all that it calls make is longer than what came in: it says more and counts as full. Else prove '..UptoSaid'. A law counts once. -/
mutual
def uptoBulk {H : Type} : DataW H → Nat
  | .lit (.string bytes) => bytes.length + 1
  | .lit _ => 1
  | .nil => 1
  | .ptr d => uptoBulk d + 1
  | .slice elems spare => uptoBulkAll elems + uptoBulkAll spare + 1
  | .agg parts => uptoBulkAll parts + 1
  | .iface _ d => uptoBulk d + 1
  | .map entries => uptoBulkEntries entries + 1
  | .held _ => 1
def uptoBulkAll {H : Type} : List (DataW H) → Nat
  | [] => 0
  | d :: r => uptoBulk d + uptoBulkAll r
def uptoBulkEntries {H : Type} : List (Lit × DataW H) → Nat
  | [] => 0
  | x :: r => uptoBulkEntry x + uptoBulkEntries r
def uptoBulkEntry {H : Type} : Lit × DataW H → Nat
  | (.string bytes, d) => bytes.length + uptoBulk d + 1
  | (_, d) => uptoBulk d + 1
 end
def uptoSmall : (H : Type) → List (DataW H) → Bool := fun _ ds => decide (uptoBulkAll ds ≤ 1048576)
def OpenSpec.upto (s : _root_.Go.ChangeSpec) : _root_.Go.OpenSpec := { _root_.Go.OpenSpec.ofChange s with cond := some uptoSmall }

/-- 'cablewaylaw20.AttemptNone', WHERE WHAT IT READS IS OF BULK AT MOST 1048576: true; the input reads as it did. -/
def attemptNoneUptoRow : OpenClaim := { program := "ytbhnpabanfbalaa", sum := "99bb217b2005e505ce15d3de076271313a8eaaba9c82a00ade417e31ab166d81", func := "cableway/cablewaylaw20.AttemptNone", spec := "attemptNone", apart := false, narrowed := true }
def AttemptNoneUptoSaid : Prop := attemptNoneUptoRow.holds Try.pinned (OpenSpec.upto attemptNoneSpec)

/-- 'cablewaylaw20.AttemptTries', WHERE WHAT IT READS IS OF BULK AT MOST 1048576: true; the input reads as it did. -/
def attemptTriesUptoRow : OpenClaim := { program := "ytbhnpabanfbalaa", sum := "99bb217b2005e505ce15d3de076271313a8eaaba9c82a00ade417e31ab166d81", func := "cableway/cablewaylaw20.AttemptTries", spec := "attemptTries", apart := false, narrowed := true }
def AttemptTriesUptoSaid : Prop := attemptTriesUptoRow.holds Try.pinned (OpenSpec.upto attemptTriesSpec)

/-- 'cablewaylaw50.TuneFits', WHERE WHAT IT READS IS OF BULK AT MOST 1048576: true; the input reads as it did. -/
def tuneFitsUptoRow : OpenClaim := { program := "ytbhnpabanfbalaa", sum := "99bb217b2005e505ce15d3de076271313a8eaaba9c82a00ade417e31ab166d81", func := "cableway/cablewaylaw50.TuneFits", spec := "tuneFits", unfollowed := true, recurses := true, apart := false, narrowed := true }
def TuneFitsUptoSaid : Prop := tuneFitsUptoRow.holds Try.pinned (OpenSpec.upto tuneFitsSpec)

end Rows
end Go.Proofs.Ytbhnpabanfbalaa
