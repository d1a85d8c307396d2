/-
  No cell of these rows narrows 'for every input' (looked for: loops, veiled, ifaces, maps, wideKeys, modest, calm, conditions, laid).
  DERIVED. THE GIVEN ROWS OF THIS SEAT. 12 by the template 'for every input the law returns true; each argument reads behind the call as it read before'; 0 by the template 'total and deterministic' (their statements: YtidefefaealheaaTotals.lean).
  GIVEN WITH THE SEED: the statements are not yours to turn. If you find one false, say at which input.
  Laid BY PROGRAM, IN A SANDBOX (cutbox-rows.mjs): the forced cells as the released guide's own fill.sh prints them over the translation 48ff2f29ca5f27e6… (all of the seat's roots in one cut). By AI agents, Wed Nov 11 2026. No macro, syntax, notation, axiom, sorry.
-/
import Derived.Test.YtidefefaealheaaChecked
import GoSem.Claim
import GoSem.ClaimJoined
import GoSem.ClaimMapViews
import Derived.JoinedTies
import Derived.KernelRfl
namespace Go.Proofs.Ytidefefaealheaa
/- THE CELL 'sum', in the pinned program and in every row, IS THE sha256 OF THE DUMP (.gsa) THAT YtidefefaealheaaProg.lean LOADS. Nothing in Lean hashes anything: it is a label: what it is worth is what the hold of that sum in a sandbox is worth. -/
noncomputable def Try.pinned : Pinned := { name := "ytidefefaealheaa", sum := "48ff2f29ca5f27e68f92c78e516c255725b99b939682f687f0db52d4cc168bd7", checked := Try.checked }
namespace Rows
def none {H : Type} : Left H := { results := [], args := [] }

/-- 'cablewaylaw21.CreditRaw': WHATEVER THE INPUT: true; the input reads as it did. -/
def creditRawSpec : ChangeSpec := { name := "creditRaw", fn := fun _ => fun
  | [d1, d2] => { results := [.lit (.bool true)], args := [d1, d2] }
  | _ => none }
def creditRawRow : OpenClaim := { program := "ytidefefaealheaa", sum := "48ff2f29ca5f27e68f92c78e516c255725b99b939682f687f0db52d4cc168bd7", func := "cableway/cablewaylaw21.CreditRaw", spec := "creditRaw", apart := false }
def CreditRawSaid : Prop := creditRawRow.holds Try.pinned (OpenSpec.ofChange creditRawSpec)

/-- ITS FALSE NEIGHBOUR: 'it returns false'. Refute it at one input. -/
def creditRawWrong : ChangeSpec := { name := "creditRaw", fn := fun _ => fun
  | [d1, d2] => { results := [.lit (.bool false)], args := [d1, d2] }
  | _ => none }
def CreditRawWrongFalsely : Prop := creditRawRow.holds Try.pinned (OpenSpec.ofChange creditRawWrong)

/-- 'cablewaylaw01.FieldGets': WHATEVER THE INPUT: true; the input reads as it did. -/
def fieldGetsSpec : ChangeSpec := { name := "fieldGets", fn := fun _ => fun
  | [d1, d2, d3] => { results := [.lit (.bool true)], args := [d1, d2, d3] }
  | _ => none }
def fieldGetsRow : OpenClaim := { program := "ytidefefaealheaa", sum := "48ff2f29ca5f27e68f92c78e516c255725b99b939682f687f0db52d4cc168bd7", func := "cableway/cablewaylaw01.FieldGets", spec := "fieldGets", apart := false }
def FieldGetsSaid : Prop := fieldGetsRow.holds Try.pinned (OpenSpec.ofChange fieldGetsSpec)

/-- ITS FALSE NEIGHBOUR: 'it returns false'. Refute it at one input. -/
def fieldGetsWrong : ChangeSpec := { name := "fieldGets", fn := fun _ => fun
  | [d1, d2, d3] => { results := [.lit (.bool false)], args := [d1, d2, d3] }
  | _ => none }
def FieldGetsWrongFalsely : Prop := fieldGetsRow.holds Try.pinned (OpenSpec.ofChange fieldGetsWrong)

/-- 'cablewaylaw01.FieldApart': WHATEVER THE INPUT: true; the input reads as it did. -/
def fieldApartSpec : ChangeSpec := { name := "fieldApart", fn := fun _ => fun
  | [d1, d2] => { results := [.lit (.bool true)], args := [d1, d2] }
  | _ => none }
def fieldApartRow : OpenClaim := { program := "ytidefefaealheaa", sum := "48ff2f29ca5f27e68f92c78e516c255725b99b939682f687f0db52d4cc168bd7", func := "cableway/cablewaylaw01.FieldApart", spec := "fieldApart", apart := false }
def FieldApartSaid : Prop := fieldApartRow.holds Try.pinned (OpenSpec.ofChange fieldApartSpec)

/-- ITS FALSE NEIGHBOUR: 'it returns false'. Refute it at one input. -/
def fieldApartWrong : ChangeSpec := { name := "fieldApart", fn := fun _ => fun
  | [d1, d2] => { results := [.lit (.bool false)], args := [d1, d2] }
  | _ => none }
def FieldApartWrongFalsely : Prop := fieldApartRow.holds Try.pinned (OpenSpec.ofChange fieldApartWrong)

/-- 'cablewaylaw24.RouteLeast': WHATEVER THE INPUT: true; the input reads as it did. -/
def routeLeastSpec : ChangeSpec := { name := "routeLeast", fn := fun _ => fun
  | [d1, d2] => { results := [.lit (.bool true)], args := [d1, d2] }
  | _ => none }
def routeLeastRow : OpenClaim := { program := "ytidefefaealheaa", sum := "48ff2f29ca5f27e68f92c78e516c255725b99b939682f687f0db52d4cc168bd7", func := "cableway/cablewaylaw24.RouteLeast", spec := "routeLeast", apart := false }
def RouteLeastSaid : Prop := routeLeastRow.holds Try.pinned (OpenSpec.ofChange routeLeastSpec)

/-- ITS FALSE NEIGHBOUR: 'it returns false'. Refute it at one input. -/
def routeLeastWrong : ChangeSpec := { name := "routeLeast", fn := fun _ => fun
  | [d1, d2] => { results := [.lit (.bool false)], args := [d1, d2] }
  | _ => none }
def RouteLeastWrongFalsely : Prop := routeLeastRow.holds Try.pinned (OpenSpec.ofChange routeLeastWrong)

/-- 'cablewaylaw24.RouteShares': WHATEVER THE INPUT: true; the input reads as it did. -/
def routeSharesSpec : ChangeSpec := { name := "routeShares", fn := fun _ => fun
  | [d1, d2] => { results := [.lit (.bool true)], args := [d1, d2] }
  | _ => none }
def routeSharesRow : OpenClaim := { program := "ytidefefaealheaa", sum := "48ff2f29ca5f27e68f92c78e516c255725b99b939682f687f0db52d4cc168bd7", func := "cableway/cablewaylaw24.RouteShares", spec := "routeShares", apart := false }
def RouteSharesSaid : Prop := routeSharesRow.holds Try.pinned (OpenSpec.ofChange routeSharesSpec)

/-- ITS FALSE NEIGHBOUR: 'it returns false'. Refute it at one input. -/
def routeSharesWrong : ChangeSpec := { name := "routeShares", fn := fun _ => fun
  | [d1, d2] => { results := [.lit (.bool false)], args := [d1, d2] }
  | _ => none }
def RouteSharesWrongFalsely : Prop := routeSharesRow.holds Try.pinned (OpenSpec.ofChange routeSharesWrong)

/-- 'cablewaylaw25.HandlerChunks': WHATEVER THE INPUT: true; the input reads as it did. -/
def handlerChunksSpec : ChangeSpec := { name := "handlerChunks", fn := fun _ => fun
  | [d1, d2] => { results := [.lit (.bool true)], args := [d1, d2] }
  | _ => none }
def handlerChunksRow : OpenClaim := { program := "ytidefefaealheaa", sum := "48ff2f29ca5f27e68f92c78e516c255725b99b939682f687f0db52d4cc168bd7", func := "cableway/cablewaylaw25.HandlerChunks", spec := "handlerChunks", apart := false }
def HandlerChunksSaid : Prop := handlerChunksRow.holds Try.pinned (OpenSpec.ofChange handlerChunksSpec)

/-- ITS FALSE NEIGHBOUR: 'it returns false'. Refute it at one input. -/
def handlerChunksWrong : ChangeSpec := { name := "handlerChunks", fn := fun _ => fun
  | [d1, d2] => { results := [.lit (.bool false)], args := [d1, d2] }
  | _ => none }
def HandlerChunksWrongFalsely : Prop := handlerChunksRow.holds Try.pinned (OpenSpec.ofChange handlerChunksWrong)

/-- 'cablewaylaw25.HandlerAdds': WHATEVER THE INPUT: true; the input reads as it did. -/
def handlerAddsSpec : ChangeSpec := { name := "handlerAdds", fn := fun _ => fun
  | [d1, d2] => { results := [.lit (.bool true)], args := [d1, d2] }
  | _ => none }
def handlerAddsRow : OpenClaim := { program := "ytidefefaealheaa", sum := "48ff2f29ca5f27e68f92c78e516c255725b99b939682f687f0db52d4cc168bd7", func := "cableway/cablewaylaw25.HandlerAdds", spec := "handlerAdds", apart := false }
def HandlerAddsSaid : Prop := handlerAddsRow.holds Try.pinned (OpenSpec.ofChange handlerAddsSpec)

/-- ITS FALSE NEIGHBOUR: 'it returns false'. Refute it at one input. -/
def handlerAddsWrong : ChangeSpec := { name := "handlerAdds", fn := fun _ => fun
  | [d1, d2] => { results := [.lit (.bool false)], args := [d1, d2] }
  | _ => none }
def HandlerAddsWrongFalsely : Prop := handlerAddsRow.holds Try.pinned (OpenSpec.ofChange handlerAddsWrong)

/-- 'cablewaylaw25.HandlerRuns': WHATEVER THE INPUT: true; the input reads as it did. -/
def handlerRunsSpec : ChangeSpec := { name := "handlerRuns", fn := fun _ => fun
  | [d1, d2, d3] => { results := [.lit (.bool true)], args := [d1, d2, d3] }
  | _ => none }
def handlerRunsRow : OpenClaim := { program := "ytidefefaealheaa", sum := "48ff2f29ca5f27e68f92c78e516c255725b99b939682f687f0db52d4cc168bd7", func := "cableway/cablewaylaw25.HandlerRuns", spec := "handlerRuns", apart := false }
def HandlerRunsSaid : Prop := handlerRunsRow.holds Try.pinned (OpenSpec.ofChange handlerRunsSpec)

/-- ITS FALSE NEIGHBOUR: 'it returns false'. Refute it at one input. -/
def handlerRunsWrong : ChangeSpec := { name := "handlerRuns", fn := fun _ => fun
  | [d1, d2, d3] => { results := [.lit (.bool false)], args := [d1, d2, d3] }
  | _ => none }
def HandlerRunsWrongFalsely : Prop := handlerRunsRow.holds Try.pinned (OpenSpec.ofChange handlerRunsWrong)

/-- 'cablewaylaw18.HedgeNext': WHATEVER THE INPUT: true; the input reads as it did. -/
def hedgeNextSpec : ChangeSpec := { name := "hedgeNext", fn := fun _ => fun
  | [d1, d2, d3] => { results := [.lit (.bool true)], args := [d1, d2, d3] }
  | _ => none }
def hedgeNextRow : OpenClaim := { program := "ytidefefaealheaa", sum := "48ff2f29ca5f27e68f92c78e516c255725b99b939682f687f0db52d4cc168bd7", func := "cableway/cablewaylaw18.HedgeNext", spec := "hedgeNext", apart := false }
def HedgeNextSaid : Prop := hedgeNextRow.holds Try.pinned (OpenSpec.ofChange hedgeNextSpec)

/-- ITS FALSE NEIGHBOUR: 'it returns false'. Refute it at one input. -/
def hedgeNextWrong : ChangeSpec := { name := "hedgeNext", fn := fun _ => fun
  | [d1, d2, d3] => { results := [.lit (.bool false)], args := [d1, d2, d3] }
  | _ => none }
def HedgeNextWrongFalsely : Prop := hedgeNextRow.holds Try.pinned (OpenSpec.ofChange hedgeNextWrong)

/-- 'cablewaylaw18.HedgePlan': WHATEVER THE INPUT: true; the input reads as it did. -/
def hedgePlanSpec : ChangeSpec := { name := "hedgePlan", fn := fun _ => fun
  | [d1, d2, d3] => { results := [.lit (.bool true)], args := [d1, d2, d3] }
  | _ => none }
def hedgePlanRow : OpenClaim := { program := "ytidefefaealheaa", sum := "48ff2f29ca5f27e68f92c78e516c255725b99b939682f687f0db52d4cc168bd7", func := "cableway/cablewaylaw18.HedgePlan", spec := "hedgePlan", apart := false }
def HedgePlanSaid : Prop := hedgePlanRow.holds Try.pinned (OpenSpec.ofChange hedgePlanSpec)

/-- ITS FALSE NEIGHBOUR: 'it returns false'. Refute it at one input. -/
def hedgePlanWrong : ChangeSpec := { name := "hedgePlan", fn := fun _ => fun
  | [d1, d2, d3] => { results := [.lit (.bool false)], args := [d1, d2, d3] }
  | _ => none }
def HedgePlanWrongFalsely : Prop := hedgePlanRow.holds Try.pinned (OpenSpec.ofChange hedgePlanWrong)

/-- 'cablewaylaw19.AdmitPlays': WHATEVER THE INPUT: true; the input reads as it did. -/
def admitPlaysSpec : ChangeSpec := { name := "admitPlays", fn := fun _ => fun
  | [d1, d2, d3] => { results := [.lit (.bool true)], args := [d1, d2, d3] }
  | _ => none }
def admitPlaysRow : OpenClaim := { program := "ytidefefaealheaa", sum := "48ff2f29ca5f27e68f92c78e516c255725b99b939682f687f0db52d4cc168bd7", func := "cableway/cablewaylaw19.AdmitPlays", spec := "admitPlays", apart := false }
def AdmitPlaysSaid : Prop := admitPlaysRow.holds Try.pinned (OpenSpec.ofChange admitPlaysSpec)

/-- ITS FALSE NEIGHBOUR: 'it returns false'. Refute it at one input. -/
def admitPlaysWrong : ChangeSpec := { name := "admitPlays", fn := fun _ => fun
  | [d1, d2, d3] => { results := [.lit (.bool false)], args := [d1, d2, d3] }
  | _ => none }
def AdmitPlaysWrongFalsely : Prop := admitPlaysRow.holds Try.pinned (OpenSpec.ofChange admitPlaysWrong)

/-- 'cablewaylaw19.AdmitMost': WHATEVER THE INPUT: true; the input reads as it did. -/
def admitMostSpec : ChangeSpec := { name := "admitMost", fn := fun _ => fun
  | [d1, d2] => { results := [.lit (.bool true)], args := [d1, d2] }
  | _ => none }
def admitMostRow : OpenClaim := { program := "ytidefefaealheaa", sum := "48ff2f29ca5f27e68f92c78e516c255725b99b939682f687f0db52d4cc168bd7", func := "cableway/cablewaylaw19.AdmitMost", spec := "admitMost", apart := false }
def AdmitMostSaid : Prop := admitMostRow.holds Try.pinned (OpenSpec.ofChange admitMostSpec)

/-- ITS FALSE NEIGHBOUR: 'it returns false'. Refute it at one input. -/
def admitMostWrong : ChangeSpec := { name := "admitMost", fn := fun _ => fun
  | [d1, d2] => { results := [.lit (.bool false)], args := [d1, d2] }
  | _ => none }
def AdmitMostWrongFalsely : Prop := admitMostRow.holds Try.pinned (OpenSpec.ofChange admitMostWrong)

/- THE SECOND FORM. 'bulk': how many values and letters a reading holds, each counted each time it is reached (what is shared counts as often as it is met; a slice's spare places count too). A statement '..UptoSaid' is the law's where the arguments, and the package variables that the reading takes, are together of bulk at most 1048576: NARROWER than '..Said'. Prove '..Said' where nothing that the law and all that it calls make is longer than what came in: it says more and counts as full. Else prove '..UptoSaid'. A law counts once. -/
mutual
def uptoBulk {H : Type} : DataW H → Nat
  | .lit (.string bytes) => bytes.length + 1
  | .lit _ => 1
  | .nil => 1
  | .ptr d => uptoBulk d + 1
  | .slice elems spare => uptoBulkAll elems + uptoBulkAll spare + 1
  | .agg parts => uptoBulkAll parts + 1
  | .iface _ d => uptoBulk d + 1
  | .map entries => uptoBulkEntries entries + 1
  | .held _ => 1
def uptoBulkAll {H : Type} : List (DataW H) → Nat
  | [] => 0
  | d :: r => uptoBulk d + uptoBulkAll r
def uptoBulkEntries {H : Type} : List (Lit × DataW H) → Nat
  | [] => 0
  | x :: r => uptoBulkEntry x + uptoBulkEntries r
def uptoBulkEntry {H : Type} : Lit × DataW H → Nat
  | (.string bytes, d) => bytes.length + uptoBulk d + 1
  | (_, d) => uptoBulk d + 1
 end
def uptoSmall : (H : Type) → List (DataW H) → Bool := fun _ ds => decide (uptoBulkAll ds ≤ 1048576)
def OpenSpec.upto (s : _root_.Go.ChangeSpec) : _root_.Go.OpenSpec := { _root_.Go.OpenSpec.ofChange s with cond := some uptoSmall }

/-- 'cablewaylaw21.CreditRaw', WHERE WHAT IT READS IS OF BULK AT MOST 1048576: true; the input reads as it did. -/
def creditRawUptoRow : OpenClaim := { program := "ytidefefaealheaa", sum := "48ff2f29ca5f27e68f92c78e516c255725b99b939682f687f0db52d4cc168bd7", func := "cableway/cablewaylaw21.CreditRaw", spec := "creditRaw", apart := false, narrowed := true }
def CreditRawUptoSaid : Prop := creditRawUptoRow.holds Try.pinned (OpenSpec.upto creditRawSpec)

/-- 'cablewaylaw01.FieldGets', WHERE WHAT IT READS IS OF BULK AT MOST 1048576: true; the input reads as it did. -/
def fieldGetsUptoRow : OpenClaim := { program := "ytidefefaealheaa", sum := "48ff2f29ca5f27e68f92c78e516c255725b99b939682f687f0db52d4cc168bd7", func := "cableway/cablewaylaw01.FieldGets", spec := "fieldGets", apart := false, narrowed := true }
def FieldGetsUptoSaid : Prop := fieldGetsUptoRow.holds Try.pinned (OpenSpec.upto fieldGetsSpec)

/-- 'cablewaylaw01.FieldApart', WHERE WHAT IT READS IS OF BULK AT MOST 1048576: true; the input reads as it did. -/
def fieldApartUptoRow : OpenClaim := { program := "ytidefefaealheaa", sum := "48ff2f29ca5f27e68f92c78e516c255725b99b939682f687f0db52d4cc168bd7", func := "cableway/cablewaylaw01.FieldApart", spec := "fieldApart", apart := false, narrowed := true }
def FieldApartUptoSaid : Prop := fieldApartUptoRow.holds Try.pinned (OpenSpec.upto fieldApartSpec)

/-- 'cablewaylaw24.RouteLeast', WHERE WHAT IT READS IS OF BULK AT MOST 1048576: true; the input reads as it did. -/
def routeLeastUptoRow : OpenClaim := { program := "ytidefefaealheaa", sum := "48ff2f29ca5f27e68f92c78e516c255725b99b939682f687f0db52d4cc168bd7", func := "cableway/cablewaylaw24.RouteLeast", spec := "routeLeast", apart := false, narrowed := true }
def RouteLeastUptoSaid : Prop := routeLeastUptoRow.holds Try.pinned (OpenSpec.upto routeLeastSpec)

/-- 'cablewaylaw24.RouteShares', WHERE WHAT IT READS IS OF BULK AT MOST 1048576: true; the input reads as it did. -/
def routeSharesUptoRow : OpenClaim := { program := "ytidefefaealheaa", sum := "48ff2f29ca5f27e68f92c78e516c255725b99b939682f687f0db52d4cc168bd7", func := "cableway/cablewaylaw24.RouteShares", spec := "routeShares", apart := false, narrowed := true }
def RouteSharesUptoSaid : Prop := routeSharesUptoRow.holds Try.pinned (OpenSpec.upto routeSharesSpec)

/-- 'cablewaylaw25.HandlerChunks', WHERE WHAT IT READS IS OF BULK AT MOST 1048576: true; the input reads as it did. -/
def handlerChunksUptoRow : OpenClaim := { program := "ytidefefaealheaa", sum := "48ff2f29ca5f27e68f92c78e516c255725b99b939682f687f0db52d4cc168bd7", func := "cableway/cablewaylaw25.HandlerChunks", spec := "handlerChunks", apart := false, narrowed := true }
def HandlerChunksUptoSaid : Prop := handlerChunksUptoRow.holds Try.pinned (OpenSpec.upto handlerChunksSpec)

/-- 'cablewaylaw25.HandlerAdds', WHERE WHAT IT READS IS OF BULK AT MOST 1048576: true; the input reads as it did. -/
def handlerAddsUptoRow : OpenClaim := { program := "ytidefefaealheaa", sum := "48ff2f29ca5f27e68f92c78e516c255725b99b939682f687f0db52d4cc168bd7", func := "cableway/cablewaylaw25.HandlerAdds", spec := "handlerAdds", apart := false, narrowed := true }
def HandlerAddsUptoSaid : Prop := handlerAddsUptoRow.holds Try.pinned (OpenSpec.upto handlerAddsSpec)

/-- 'cablewaylaw25.HandlerRuns', WHERE WHAT IT READS IS OF BULK AT MOST 1048576: true; the input reads as it did. -/
def handlerRunsUptoRow : OpenClaim := { program := "ytidefefaealheaa", sum := "48ff2f29ca5f27e68f92c78e516c255725b99b939682f687f0db52d4cc168bd7", func := "cableway/cablewaylaw25.HandlerRuns", spec := "handlerRuns", apart := false, narrowed := true }
def HandlerRunsUptoSaid : Prop := handlerRunsUptoRow.holds Try.pinned (OpenSpec.upto handlerRunsSpec)

/-- 'cablewaylaw18.HedgeNext', WHERE WHAT IT READS IS OF BULK AT MOST 1048576: true; the input reads as it did. -/
def hedgeNextUptoRow : OpenClaim := { program := "ytidefefaealheaa", sum := "48ff2f29ca5f27e68f92c78e516c255725b99b939682f687f0db52d4cc168bd7", func := "cableway/cablewaylaw18.HedgeNext", spec := "hedgeNext", apart := false, narrowed := true }
def HedgeNextUptoSaid : Prop := hedgeNextUptoRow.holds Try.pinned (OpenSpec.upto hedgeNextSpec)

/-- 'cablewaylaw18.HedgePlan', WHERE WHAT IT READS IS OF BULK AT MOST 1048576: true; the input reads as it did. -/
def hedgePlanUptoRow : OpenClaim := { program := "ytidefefaealheaa", sum := "48ff2f29ca5f27e68f92c78e516c255725b99b939682f687f0db52d4cc168bd7", func := "cableway/cablewaylaw18.HedgePlan", spec := "hedgePlan", apart := false, narrowed := true }
def HedgePlanUptoSaid : Prop := hedgePlanUptoRow.holds Try.pinned (OpenSpec.upto hedgePlanSpec)

/-- 'cablewaylaw19.AdmitPlays', WHERE WHAT IT READS IS OF BULK AT MOST 1048576: true; the input reads as it did. -/
def admitPlaysUptoRow : OpenClaim := { program := "ytidefefaealheaa", sum := "48ff2f29ca5f27e68f92c78e516c255725b99b939682f687f0db52d4cc168bd7", func := "cableway/cablewaylaw19.AdmitPlays", spec := "admitPlays", apart := false, narrowed := true }
def AdmitPlaysUptoSaid : Prop := admitPlaysUptoRow.holds Try.pinned (OpenSpec.upto admitPlaysSpec)

/-- 'cablewaylaw19.AdmitMost', WHERE WHAT IT READS IS OF BULK AT MOST 1048576: true; the input reads as it did. -/
def admitMostUptoRow : OpenClaim := { program := "ytidefefaealheaa", sum := "48ff2f29ca5f27e68f92c78e516c255725b99b939682f687f0db52d4cc168bd7", func := "cableway/cablewaylaw19.AdmitMost", spec := "admitMost", apart := false, narrowed := true }
def AdmitMostUptoSaid : Prop := admitMostUptoRow.holds Try.pinned (OpenSpec.upto admitMostSpec)

end Rows
end Go.Proofs.Ytidefefaealheaa
